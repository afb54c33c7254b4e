/- A disk's calls: Arm, Fail, Pending. -/
import Derived.Test.YtfggcdpipolahaaFiCallB
set_option linter.unusedVariables false
set_option linter.unusedSimpArgs false
namespace Go.Proofs.Ytfggcdpipolahaa.PF
open Go.RowKit Go.Proofs.YtfggcdpipolahaaW.PrintWords Go.Proofs.YtfggcdpipolahaaW.PrintLast Go.Proofs.YtfggcdpipolahaaW.PrintMore
attribute [local go_sem] max2_int min2_int max_two min_two
def most (n : Int) : Int := if 4611686018427387904 < n then 4611686018427387904 else n
def ADk.armed (a : ADk) (n : Int) : ADk × Int := if n < 0 then (a, 2) else ({ a with arm := most n + 1 }, 0)
def ADk.failing (a : ADk) (n e : Int) : ADk × Int := if n < 0 ∨ e ≠ 4 ∧ e ≠ 5 then (a, 2) else ({ a with fail := most n + 1, wth := e }, 0)
theorem most_le {n : Int} (h : 0 ≤ n) : 0 ≤ most n ∧ most n ≤ 4611686018427387904 := by unfold most; split <;> omega
theorem arm_calls {w : World} {b : Nat} {ok : Nat → Prop} {d : Dk} {rs : List Rop} {a : ADk} (h : Mem w b ok d rs a) (n : Int) :
    Calls Try.prog 25 #[.pointer (some ⟨b, 0, none⟩), .int .i64 n] w (Post w b ok d (a.armed n)) := by
  have H0 := Lib.hid (none_calls h.box)
  have HM := Lib.hid h
  by_cases h0 : n < 0
  · have HE := Lib.hid (show a.armed n = (a, 2) by unfold ADk.armed; rw [if_pos h0])
    clear h
    go_enter Try.func25, Try.ntmps25
    go_wp2_with fail
    refine H0.out.mono ?_
    rintro e w0 ⟨rfl, rfl⟩
    go_wp2
    go_ret
    rw [HE.out]
    exact Post.same HM.out 2
  · have HE := Lib.hid (show a.armed n = ({ a with arm := most n + 1 }, 0) by unfold ADk.armed; rw [if_neg h0])
    have hb := most_le (n := n) (by omega)
    have hmin : (if 4611686018427387904 < n then 4611686018427387904 else n) = most n := rfl
    have v1 : IntKind.i64.wrap (most n + 1) = most n + 1 := by rw [IntKind.wrap_i64]; omega
    have HA := Lib.hid (at_store (y := most n + 1) (h.box.cell 9 rfl) (blk_frozen h.box 9))
    clear h hb
    go_enter Try.func25, Try.ntmps25
    go_wp2_with fail
    refine H0.out.mono ?_
    rintro e w0 ⟨rfl, rfl⟩
    go_wp2_with fail
    refine HA.out.mono ?_
    rintro e w1 ⟨rfl, rfl⟩
    go_wp2
    go_ret
    rw [HE.out]
    exact ⟨_, rs, rfl, (HM.out.setArm _).mono (fun _ => .inl), (Fr.of_grown (grown_set 9 _)).mono (fun k hk => .inl (by injection hk)), fun k hk => .inl hk⟩
theorem fail_calls {w : World} {b : Nat} {ok : Nat → Prop} {d : Dk} {rs : List Rop} {a : ADk} (h : Mem w b ok d rs a) (n x : Int) :
    Calls Try.prog 26 #[.pointer (some ⟨b, 0, none⟩), .int .i64 n, .int .i64 x] w (Post w b ok d (a.failing n x)) := by
  have H0 := Lib.hid (none_calls h.box)
  have HM := Lib.hid h
  by_cases h0 : n < 0
  · have HE := Lib.hid (show a.failing n x = (a, 2) by unfold ADk.failing; rw [if_pos (.inl h0)])
    clear h
    go_enter Try.func26, Try.ntmps26
    go_wp2_with fail
    refine H0.out.mono ?_
    rintro e w0 ⟨rfl, rfl⟩
    go_wp2
    go_ret
    rw [HE.out]
    exact Post.same HM.out 2
  by_cases h4 : x ≠ 4 ∧ x ≠ 5
  · have HE := Lib.hid (show a.failing n x = (a, 2) by unfold ADk.failing; rw [if_pos (.inr h4)])
    have e4 : (x == 4) = false := by simp [h4.1]
    have e5 : (x == 5) = false := by simp [h4.2]
    have n4 : (x != 4) = true := by simp [h4.1]
    have n5 : (x != 5) = true := by simp [h4.2]
    clear h h4
    go_enter Try.func26, Try.ntmps26
    go_wp2_with fail
    refine H0.out.mono ?_
    rintro e w0 ⟨rfl, rfl⟩
    go_wp2
    go_ret
    rw [HE.out]
    exact Post.same HM.out 2
  · have HE := Lib.hid (show a.failing n x = ({ a with fail := most n + 1, wth := x }, 0) by unfold ADk.failing; rw [if_neg (by omega)])
    have hb := most_le (n := n) (by omega)
    have hmin : (if 4611686018427387904 < n then 4611686018427387904 else n) = most n := rfl
    have v1 : IntKind.i64.wrap (most n + 1) = most n + 1 := by rw [IntKind.wrap_i64]; omega
    have HA := Lib.hid (at_store (y := most n + 1) (h.box.cell 10 rfl) (blk_frozen h.box 10))
    have hx : x = 4 ∨ x = 5 := by omega
    clear h hb h4
    rcases hx with rfl | rfl
    all_goals (
      go_enter Try.func26, Try.ntmps26
      go_wp2_with fail
      refine H0.out.mono ?_
      rintro e w0 ⟨rfl, rfl⟩
      go_wp2_with fail
      refine HA.out.mono ?_
      rintro e w1 ⟨rfl, hw1⟩
      have HM1 := Lib.hid (hw1 ▸ HM.out.setFail (most n + 1))
      have HF1 := Lib.hid (show Fr w w1 (fun k => k = b ∨ some k = d.opsB) from hw1 ▸ (Fr.of_grown (grown_set 10 _)).mono (fun k hk => .inl (by injection hk)))
      have c11 : w1.cell? ⟨b, 11, none⟩ = some (.int .i64 d.wth) := HM1.out.box.cell 11 rfl
      have z11 : w1.frozen? ⟨b, 11, none⟩ = false := blk_frozen HM1.out.box 11
      clear hw1 HA
      go_wp2
      go_ret
      rw [HE.out]
      exact ⟨_, rs, rfl, (HM1.out.setWth _).mono (fun _ => .inl), HF1.out.then_ (Fr.of_grown (grown_set 11 _)) (fun k hk => .inl (.inl (by injection hk))), fun k hk => .inl hk⟩)
theorem pendingM_calls {w : World} {b : Nat} {ok : Nat → Prop} {d : Dk} {rs : List Rop} {a : ADk} (h : Mem w b ok d rs a) :
    Calls Try.prog 21 #[.pointer (some ⟨b, 0, none⟩)] w fun e w' => e = .returned (.int .i64 a.ops.length) ∧ w = w' := by
  have hr := Kd.R_reads' h.ops
  have hl := h.rel.len
  have e : d.ops.2.1 = a.ops.length := by rw [← hl]; exact hr.1
  have := pending_calls h.box (by have := hr.2.2.2.1; rw [e, ← hl]; exact this)
  rw [e] at this
  exact this
end Go.Proofs.Ytfggcdpipolahaa.PF
