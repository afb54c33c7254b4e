/- A disk: its box; none, wrong, New, spent, Pending, Arm, Fail. -/
import Derived.Test.YtfggcdpipolahaaFiAt
set_option linter.unusedVariables false
set_option linter.unusedSimpArgs false
namespace Go.Proofs.Ytfggcdpipolahaa.PF
open Go.RowKit Go.Proofs.YtfggcdpipolahaaW.PrintWords Go.Proofs.YtfggcdpipolahaaW.PrintLast Go.Proofs.YtfggcdpipolahaaW.PrintMore
attribute [local go_sem] max2_int min2_int max_two min_two
/-- A slice's three words. -/
abbrev Sl := Option Addr × Nat × Nat
abbrev Sl.v (s : Sl) : Value := .slice s.1 s.2.1 s.2.2
/-- What a disk's box holds. -/
structure Dk where
  n0 : Sl
  n1 : Sl
  n2 : Sl
  s0 : Sl
  s1 : Sl
  s2 : Sl
  ops : Sl
  down : Bool
  arm : Int
  fail : Int
  wth : Int
def Dk.cells (d : Dk) : Array Value := #[.bool true, d.n0.v, d.n1.v, d.n2.v, d.s0.v, d.s1.v, d.s2.v, d.ops.v, .bool d.down, .int .i64 d.arm, .int .i64 d.fail, .int .i64 d.wth]
def DB (w : World) (b : Nat) (d : Dk) : Prop := w.heap[b]? = some (.cells d.cells 69 (0, 0))
theorem DB.cell {w : World} {b : Nat} {d : Dk} (h : DB w b d) (i : Nat) {u : Value} (hu : d.cells[i]? = some u) : w.cell? ⟨b, i, none⟩ = some u := (blk_cell h i).trans hu
theorem DB.keep {w w' : World} {b : Nat} {d : Dk} (h : DB w b d) (hb : Below w.heap.size w w') : DB w' b d := blk_below h hb
def Dk.nil : Dk := ⟨(none, 0, 0), (none, 0, 0), (none, 0, 0), (none, 0, 0), (none, 0, 0), (none, 0, 0), (none, 0, 0), false, 0, 0, 0⟩
theorem new_calls (w : World) : Calls Try.prog 9 #[] w fun e w' => ∃ b, b = w.heap.size ∧ e = .returned (.pointer (some ⟨b, 0, none⟩)) ∧ DB w' b Dk.nil ∧ Below w.heap.size w w' := by
  go_enter Try.func9, Try.ntmps9
  go_wp2
  go_ret
  exact ⟨_, rfl, rfl, blk_new _ _, below_alloc (Below.refl _ _) _⟩
theorem none_calls {b : Nat} {d : Dk} {w : World} (h : DB w b d) : Calls Try.prog 32 #[.pointer (some ⟨b, 0, none⟩)] w fun e w' => e = .returned (.bool false) ∧ w = w' := by
  have g0 : w.cell? ⟨b, 0, none⟩ = some (.bool true) := h.cell 0 rfl
  clear h
  go_enter Try.func32, Try.ntmps32
  go_wp2
  go_ret
  exact ⟨rfl, rfl⟩
theorem wrong_calls {b : Nat} {d : Dk} {w : World} (h : DB w b d) (f : Int) : Calls Try.prog 29 #[.pointer (some ⟨b, 0, none⟩), .int .i64 f] w fun e w' => e = .returned (.int .i64 (if 0 ≤ f ∧ f < 3 then 0 else 2)) ∧ w = w' := by
  have H := Lib.hid (none_calls h)
  clear h
  by_cases h1 : f < 0
  · have e1 : (if 0 ≤ f ∧ f < 3 then (0 : Int) else 2) = 2 := if_neg (by omega)
    rw [e1]
    go_enter Try.func29, Try.ntmps29
    go_wp2_with fail
    refine H.out.mono ?_
    rintro e w' ⟨rfl, rfl⟩
    go_wp2
    go_ret
    exact ⟨rfl, rfl⟩
  · by_cases h2 : 3 ≤ f
    · have e1 : (if 0 ≤ f ∧ f < 3 then (0 : Int) else 2) = 2 := if_neg (by omega)
      rw [e1]
      go_enter Try.func29, Try.ntmps29
      go_wp2_with fail
      refine H.out.mono ?_
      rintro e w' ⟨rfl, rfl⟩
      go_wp2
      go_ret
      exact ⟨rfl, rfl⟩
    · have e1 : (if 0 ≤ f ∧ f < 3 then (0 : Int) else 2) = 0 := if_pos (by omega)
      rw [e1]
      go_enter Try.func29, Try.ntmps29
      go_wp2_with fail
      refine H.out.mono ?_
      rintro e w' ⟨rfl, rfl⟩
      go_wp2
      go_ret
      exact ⟨rfl, rfl⟩
set_option maxRecDepth 100000 in
theorem pending_calls {b : Nat} {d : Dk} {w : World} (h : DB w b d) (hn : d.ops.2.1 ≤ 9223372036854775807) : Calls Try.prog 21 #[.pointer (some ⟨b, 0, none⟩)] w fun e w' => e = .returned (.int .i64 d.ops.2.1) ∧ w = w' := by
  have H := Lib.hid (none_calls h)
  have g : w.cell? ⟨b, 7, none⟩ = some (.slice d.ops.1 d.ops.2.1 d.ops.2.2) := h.cell 7 rfl
  clear h
  go_enter Try.func21, Try.ntmps21
  go_wp2_with fail
  refine H.out.mono ?_
  rintro e w' ⟨rfl, rfl⟩
  go_wp2
  go_ret
  exact ⟨rfl, rfl⟩
/-- An operation goes by. -/
theorem spent_calls {b o : Nat} {x : Int} {w : World} (h : w.cell? ⟨b, o, none⟩ = some (.int .i64 x)) (hz : w.frozen? ⟨b, o, none⟩ = false) (hx : 0 ≤ x ∧ x ≤ 9223372036854775807) :
    Calls Try.prog 50 #[.pointer (some ⟨b, o, none⟩)] w fun e w' => e = .returned (.bool (decide (x = 1))) ∧ (if x = 0 then w else w.setCell ⟨b, o, none⟩ (.int .i64 (x - 1))) = w' := by
  have HL := Lib.hid (at_load h)
  have HA := Lib.hid (at_add (y := -1) (s := x - 1) h hz (by rw [IntKind.wrap_i64]; omega))
  clear h hz
  by_cases h0 : x = 0
  · subst h0
    simp only [if_true]
    go_enter Try.func50, Try.ntmps50
    go_wp2_with fail
    refine HL.out.mono ?_
    rintro e w' ⟨rfl, rfl⟩
    go_wp2
    go_ret
    exact ⟨rfl, rfl⟩
  · simp only [if_neg h0]
    have h0' : (x == 0) = false := by simp [h0]
    have h1 : (x - 1 == 0) = decide (x = 1) := by rw [Bool.eq_iff_iff]; simp; omega
    go_enter Try.func50, Try.ntmps50
    go_wp2_with fail
    refine HL.out.mono ?_
    rintro e w' ⟨rfl, rfl⟩
    go_wp2_with fail
    refine HA.out.mono ?_
    rintro e w' ⟨rfl, rfl⟩
    go_wp2
    go_ret
    exact ⟨rfl, rfl⟩
/-- One less, from 1 on. -/
def dec (x : Int) : Int := if x = 0 then 0 else x - 1
theorem DB.set {w : World} {b : Nat} {d d' : Dk} (h : DB w b d) (i : Nat) (u : Value) (e : d.cells.setIfInBounds i u = d'.cells) : DB (w.setCell ⟨b, i, none⟩ u) b d' := by
  have := blk_set h i u
  rw [e] at this
  exact this
theorem grown_set {w : World} {b : Nat} (i : Nat) (u : Value) : w.grownBy (w.setCell ⟨b, i, none⟩ u) (some b) :=
  ⟨rfl, rfl, rfl, by simp, fun k _ hne => Below.heap_setCell w ⟨b, i, none⟩ u k (fun e => hne (by rw [e]))⟩
theorem grown_refl (w : World) (row : Option Nat) : w.grownBy w row := ⟨rfl, rfl, rfl, Nat.le_refl _, fun _ _ _ => rfl⟩
theorem grown_then {w w1 w2 : World} {row : Option Nat} (h : w.grownBy w1 row) (k : w1.grownBy w2 row) : w.grownBy w2 row :=
  ⟨k.os.trans h.os, k.tape.trans h.tape, k.output.trans h.output, Nat.le_trans h.size k.size, fun j hj hne => (k.block j (Nat.lt_of_lt_of_le hj h.size) hne).trans (h.block j hj hne)⟩
theorem spent_arm {b : Nat} {d : Dk} {w : World} (h : DB w b d) (hx : 0 ≤ d.arm ∧ d.arm ≤ 9223372036854775807) :
    Calls Try.prog 50 #[.pointer (some ⟨b, 9, none⟩)] w fun e w' => e = .returned (.bool (decide (d.arm = 1))) ∧ DB w' b { d with arm := dec d.arm } ∧ w.grownBy w' (some b) := by
  refine (spent_calls (x := d.arm) (h.cell 9 rfl) (blk_frozen h 9) hx).mono ?_
  rintro e w' ⟨rfl, hw⟩
  refine ⟨rfl, ?_⟩
  subst hw
  by_cases h0 : d.arm = 0
  · rw [if_pos h0]
    refine ⟨?_, grown_refl _ _⟩
    have e : dec d.arm = d.arm := by unfold dec; rw [if_pos h0, h0]
    rw [e]
    exact h
  · rw [if_neg h0]
    refine ⟨h.set 9 _ ?_, grown_set _ _⟩
    have e : dec d.arm = d.arm - 1 := by unfold dec; rw [if_neg h0]
    rw [e]
    rfl
theorem spent_fail {b : Nat} {d : Dk} {w : World} (h : DB w b d) (hx : 0 ≤ d.fail ∧ d.fail ≤ 9223372036854775807) :
    Calls Try.prog 50 #[.pointer (some ⟨b, 10, none⟩)] w fun e w' => e = .returned (.bool (decide (d.fail = 1))) ∧ DB w' b { d with fail := dec d.fail } ∧ w.grownBy w' (some b) := by
  refine (spent_calls (x := d.fail) (h.cell 10 rfl) (blk_frozen h 10) hx).mono ?_
  rintro e w' ⟨rfl, hw⟩
  refine ⟨rfl, ?_⟩
  subst hw
  by_cases h0 : d.fail = 0
  · rw [if_pos h0]
    refine ⟨?_, grown_refl _ _⟩
    have e : dec d.fail = d.fail := by unfold dec; rw [if_pos h0, h0]
    rw [e]
    exact h
  · rw [if_neg h0]
    refine ⟨h.set 10 _ ?_, grown_set _ _⟩
    have e : dec d.fail = d.fail - 1 := by unfold dec; rw [if_neg h0]
    rw [e]
    rfl
end Go.Proofs.Ytfggcdpipolahaa.PF
