/- The walks of the statements' own helpers on bytes: copies, comparisons, lent lists. -/
import Derived.Test.YtnhkbjihgepapaaProg
import Derived.WalkKit
import Derived.WalkSpells
import Derived.Lib.Hide
import Derived.Test.YtnhkbjihgepapaaPlainLow
set_option linter.unusedVariables false
set_option linter.unusedSimpArgs false
namespace Go.Proofs.Ytnhkbjihgepapaa.Low
open Go.RowKit Go.Proofs.YtnhkbjihgepapaaW.PrintWords Go.Proofs.YtnhkbjihgepapaaW.PrintMore

theorem info8 : (Try.prog.info? 5).map (fun i => (i.zero, i.size, i.bytes)) = some (some (.int .u8 0), 1, 1) := by kernel_rfl

theorem take_C {w : World} {A : Option Addr} {l : List Int} (h : Kd.C (Kd.int .u8) w A l.length l) (n : Nat) (hn : n ≤ l.length) : Kd.C (Kd.int .u8) w A n (l.take n) :=
  Kd.C_of_reads (d := 0) (h1 := fun _ => rfl) ((Kd.reads_of_C h).take_ n hn)

theorem cut_h {P : Program} (t e : TypeId) {i : TypeInfo} (ht : P.underlying t = some (.slice e)) (hi : P.info? e = some i) (hsz : i.size = 1) (A : Option Addr) (n c m : Nat) (hm : m ≤ c) (W : World) :
    (Instr.slice t (.slice A n c) none (some (.int .i64 (m : Int))) none).run P W = .ok (.slice A m c) W := by
  have hel : P.elem t = e := by simp [Program.elem, ht]
  have hu : P.underlying t = some (.slice (P.elem t)) := by rw [hel]; exact ht
  have ha : (A.map fun x => x.add 0) = A := by cases A <;> simp [Addr.add]
  rw [run_slice_h W t A n c hu .i64 (m : Int) (by omega) (by omega), hel]
  simp [sizeOf, typeInfo, hi, hsz, sliced, Result.andThen, ha]

set_option maxHeartbeats 1000000 in
theorem copy_calls (A : Option Addr) (c : Nat) (l : List Int) (w : World) (hr : Kd.C (Kd.int .u8) w A l.length l) (hl : l.length ≤ 140737488355328) :
    Calls Try.prog 25 #[.slice A l.length c] w fun e w' => ∃ v0 : Value, e = .returned v0 ∧ Kd.R (Kd.int .u8) 5 w' w.heap.size (fun _ => True) v0 l ∧ Below w.heap.size w w' := by
  have HR := Lib.hid hr
  clear hr
  go_enter Try.func25, Try.ntmps25
  go_wp2_with ((with_reducible refine gate_builtin (b := .append) (xs := #[.tmp 4, .tmp 5]) rfl ?_); at_builtin; refine Kd.R_append_rows (Kd.int .u8) (w0 := w) w.heap.size rfl (.tmp 4) (.tmp 5) 22 5 (.int .u8 0) 1 rfl Try.underlying22 info8 rfl (by decide) (by omega) (.slice none 0 0) ([] : List Int) l _ _ _ (fun _ => True) (fun _ => False) rfl rfl (Kd.R_nil _ _ _ _ (fun _ => True)) HR.out (fun _ _ h => h) (fun _ h => h.elim) (fun _ _ => trivial) (Below.refl _ _) (Nat.le_refl _) (by simp; omega) ?_; intro v w3 ho hb _ _; rw [List.nil_append] at ho; have HO := Lib.hid ho; have HB := Lib.hid hb; clear ho hb)
  go_ret
  exact ⟨_, rfl, HO.out, HB.out⟩

set_option maxHeartbeats 1000000 in
theorem same_calls (A : Option Addr) (c : Nat) (l : List Int) (A1 : Option Addr) (c1 : Nat) (m : List Int) (w : World) (hr : Kd.C (Kd.int .u8) w A l.length l) (hr1 : Kd.C (Kd.int .u8) w A1 m.length m) (hl : ∀ x ∈ l, 0 ≤ x ∧ x ≤ 255) (hm : ∀ x ∈ m, 0 ≤ x ∧ x ≤ 255) :
    Calls Try.prog 9 #[.slice A l.length c, .slice A1 m.length c1] w fun e w' => e = .returned (.bool (decide (l = m))) ∧ Drawn0 w w' := by
  have hcv3 := Kd.C_string (P := Try.prog) (A := A) (c := c) Try.underlying22 Try.underlying5 Try.underlying9 hr
  have hcv4 := Kd.C_string (P := Try.prog) (A := A1) (c := c1) Try.underlying22 Try.underlying5 Try.underlying9 hr1
  have S := Lib.hid (same_bytes hl hm)
  clear hr hr1 hl hm
  go_enter Try.func9, Try.ntmps9
  go_wp2
  go_ret
  refine ⟨?_, by repeat (first | exact Drawn0.refl _ | apply Drawn0.step)⟩
  rw [← S.out]
  first | rfl | simp

/-- A lent list: its bytes, and the marks in the room behind it. -/
def Lent (w : World) (ad : Addr) (cap : Nat) (l : List Int) : Prop := l.length + 3 ≤ cap ∧ Kd.C (Kd.int .u8) w (some ad) (l.length + 3) (l ++ [77, 78, 79])
theorem Lent.reads {w : World} {ad : Addr} {cap : Nat} {l : List Int} (h : Lent w ad cap l) : Kd.C (Kd.int .u8) w (some ad) l.length l := by
  have h2 := h.2
  have e : (l ++ [77, 78, 79]).length = l.length + 3 := by simp
  rw [← e] at h2
  have h3 := take_C h2 l.length (by simp)
  rwa [List.take_left] at h3
theorem Lent.below {w w1 : World} {ad : Addr} {cap : Nat} {l : List Int} (h : Lent w ad cap l) (hb : Below w.heap.size w w1) : Lent w1 ad cap l := ⟨h.1, Kd.C_below h.2 hb⟩

end Go.Proofs.Ytnhkbjihgepapaa.Low
