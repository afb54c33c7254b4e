/- The walks of the statements' own helpers on bytes: copies, comparisons, lent lists. -/
import Derived.Test.YtnhkbjihgepapaaProg
import Derived.WalkKit
import Derived.WalkSpells
import Derived.Lib.Hide
import Derived.Test.YtnhkbjihgepapaaPlainLow
set_option linter.unusedVariables false
set_option linter.unusedSimpArgs false
namespace Go.Proofs.Ytnhkbjihgepapaa.Low
open Go.RowKit Go.Proofs.YtnhkbjihgepapaaW.PrintWords Go.Proofs.YtnhkbjihgepapaaW.PrintMore

theorem info8 : (Try.prog.info? 5).map (fun i => (i.zero, i.size, i.bytes)) = some (some (.int .u8 0), 1, 1) := by kernel_rfl

theorem take_C {w : World} {A : Option Addr} {l : List Int} (h : Kd.C (Kd.int .u8) w A l.length l) (n : Nat) (hn : n ≤ l.length) : Kd.C (Kd.int .u8) w A n (l.take n) :=
  Kd.C_of_reads (d := 0) (h1 := fun _ => rfl) ((Kd.reads_of_C h).take_ n hn)

theorem cut_h {P : Program} (t e : TypeId) {i : TypeInfo} (ht : P.underlying t = some (.slice e)) (hi : P.info? e = some i) (hsz : i.size = 1) (A : Option Addr) (n c m : Nat) (hm : m ≤ c) (W : World) :
    (Instr.slice t (.slice A n c) none (some (.int .i64 (m : Int))) none).run P W = .ok (.slice A m c) W := by
  have hel : P.elem t = e := by simp [Program.elem, ht]
  have hu : P.underlying t = some (.slice (P.elem t)) := by rw [hel]; exact ht
  have ha : (A.map fun x => x.add 0) = A := by cases A <;> simp [Addr.add]
  rw [run_slice_h W t A n c hu .i64 (m : Int) (by omega) (by omega), hel]
  simp [sizeOf, typeInfo, hi, hsz, sliced, Result.andThen, ha]

set_option maxHeartbeats 1000000 in
theorem copy_calls (A : Option Addr) (c : Nat) (l : List Int) (w : World) (hr : Kd.C (Kd.int .u8) w A l.length l) (hl : l.length ≤ 140737488355328) :
    Calls Try.prog 25 #[.slice A l.length c] w fun e w' => ∃ v0 : Value, e = .returned v0 ∧ Kd.R (Kd.int .u8) 5 w' w.heap.size (fun _ => True) v0 l ∧ Below w.heap.size w w' := by
  have HR := Lib.hid hr
  clear hr
  go_enter Try.func25, Try.ntmps25
  go_wp2_with ((with_reducible refine gate_builtin (b := .append) (xs := #[.tmp 4, .tmp 5]) rfl ?_); at_builtin; refine Kd.R_append_rows (Kd.int .u8) (w0 := w) w.heap.size rfl (.tmp 4) (.tmp 5) 22 5 (.int .u8 0) 1 rfl Try.underlying22 info8 rfl (by decide) (by omega) (.slice none 0 0) ([] : List Int) l _ _ _ (fun _ => True) (fun _ => False) rfl rfl (Kd.R_nil _ _ _ _ (fun _ => True)) HR.out (fun _ _ h => h) (fun _ h => h.elim) (fun _ _ => trivial) (Below.refl _ _) (Nat.le_refl _) (by simp; omega) ?_; intro v w3 ho hb _ _; rw [List.nil_append] at ho; have HO := Lib.hid ho; have HB := Lib.hid hb; clear ho hb)
  go_ret
  exact ⟨_, rfl, HO.out, HB.out⟩

set_option maxHeartbeats 1000000 in
theorem same_calls (A : Option Addr) (c : Nat) (l : List Int) (A1 : Option Addr) (c1 : Nat) (m : List Int) (w : World) (hr : Kd.C (Kd.int .u8) w A l.length l) (hr1 : Kd.C (Kd.int .u8) w A1 m.length m) (hl : ∀ x ∈ l, 0 ≤ x ∧ x ≤ 255) (hm : ∀ x ∈ m, 0 ≤ x ∧ x ≤ 255) :
    Calls Try.prog 9 #[.slice A l.length c, .slice A1 m.length c1] w fun e w' => e = .returned (.bool (decide (l = m))) ∧ Drawn0 w w' := by
  have hcv3 := Kd.C_string (P := Try.prog) (A := A) (c := c) Try.underlying22 Try.underlying5 Try.underlying9 hr
  have hcv4 := Kd.C_string (P := Try.prog) (A := A1) (c := c1) Try.underlying22 Try.underlying5 Try.underlying9 hr1
  have S := Lib.hid (same_bytes hl hm)
  clear hr hr1 hl hm
  go_enter Try.func9, Try.ntmps9
  go_wp2
  go_ret
  refine ⟨?_, by repeat (first | exact Drawn0.refl _ | apply Drawn0.step)⟩
  rw [← S.out]
  first | rfl | simp

/-- A row of bytes in new memory reads as these bytes. -/
theorem const_reads (w : World) (xs : List Int) (fr : Nat × Nat) (hl : xs.length ≤ 9223372036854775807) :
    Kd.C (Kd.int .u8) (w.alloc (.cells (nums .u8 xs).toArray 5 fr)) (some ⟨w.heap.size, 0, none⟩) xs.length xs := by
  refine Kd.C_of_reads (enc := Value.int .u8) (d := 0) (h1 := fun _ => rfl) ⟨rfl, hl, fun _ => ⟨⟨w.heap.size, 0, none⟩, rfl, fun j hj => ?_⟩⟩
  rw [add_plain]
  have hh : (w.alloc (.cells (nums .u8 xs).toArray 5 fr)).heap[w.heap.size]? = some (.cells (nums .u8 xs).toArray 5 fr) := heap_alloc_new w _
  unfold World.cell?
  rw [hh]
  simp [nums, hj]

/-- A lent list: its bytes, and the marks in the room behind it. -/
def Lent (w : World) (ad : Addr) (cap : Nat) (l : List Int) : Prop := l.length + 3 ≤ cap ∧ Kd.C (Kd.int .u8) w (some ad) (l.length + 3) (l ++ [77, 78, 79])
theorem Lent.reads {w : World} {ad : Addr} {cap : Nat} {l : List Int} (h : Lent w ad cap l) : Kd.C (Kd.int .u8) w (some ad) l.length l := by
  have h2 := h.2
  have e : (l ++ [77, 78, 79]).length = l.length + 3 := by simp
  rw [← e] at h2
  have h3 := take_C h2 l.length (by simp)
  rwa [List.take_left] at h3
theorem Lent.below {w w1 : World} {ad : Addr} {cap : Nat} {l : List Int} (h : Lent w ad cap l) (hb : Below w.heap.size w w1) : Lent w1 ad cap l := ⟨h.1, Kd.C_below h.2 hb⟩

theorem lent_of {w : World} {base : Nat} {ok : Nat → Prop} {v : Value} {l : List Int} (ho : Kd.R (Kd.int .u8) 5 w base ok v (l ++ [77, 78, 79])) : ∃ ad c, v = .slice (some ad) (l.length + 3) c ∧ l.length + 3 ≤ c ∧ Kd.C (Kd.int .u8) w (some ad) (l.length + 3) (l ++ [77, 78, 79]) := by
  obtain ⟨A1, c1, hv, hc1, hC⟩ := Kd.R_reads ho
  have e3 : (l ++ [77, 78, 79]).length = l.length + 3 := by simp
  rw [e3] at hv hc1 hC
  obtain ⟨ad, e, _⟩ := Kd.at_int hC 0 (by omega) (by omega)
  cases e
  exact ⟨ad, c1, hv, hc1, hC⟩

set_option maxHeartbeats 1000000 in
theorem lent_calls (A : Option Addr) (c : Nat) (l : List Int) (w : World) (hr : Kd.C (Kd.int .u8) w A l.length l) (hl : l.length ≤ 140737488355325) :
    Calls Try.prog 21 #[.slice A l.length c] w fun e w' => ∃ ad cap, e = .returned (.slice (some ad) l.length cap) ∧ Lent w' ad cap l ∧ Below w.heap.size w w' := by
  have H := Lib.hid (copy_calls A c l w hr (by omega))
  clear hr
  go_enter Try.func21, Try.ntmps21
  go_wp2_with fail
  refine H.out.mono ?_
  rintro e w1 ⟨v0, rfl, ho0, hb0⟩
  have HO0 := Lib.hid ho0
  have HB0 := Lib.hid hb0
  have hs0 := hb0.size
  clear ho0 hb0
  obtain ⟨i0, hi, _, hz1, _⟩ := info_parts info8
  go_wp2_with ((with_reducible refine gate_builtin (b := .append) (xs := #[.tmp 5, .tmp 6]) rfl ?_); at_builtin; refine Kd.R_append_rows (Kd.int .u8) (w0 := w) w.heap.size rfl (.tmp 5) (.tmp 6) 22 5 (.int .u8 0) 1 rfl Try.underlying22 info8 rfl (by decide) (by omega) v0 l ([77, 78, 79] : List Int) _ _ _ (fun _ => True) (fun _ => False) rfl rfl (Kd.R_alloc HO0.out _) (const_reads w1 [77, 78, 79] (0, 0) (by decide)) (fun _ _ h => h) (fun _ h => h.elim) (fun _ _ => trivial) (below_alloc HB0.out _) (by simp; omega) (by simp; omega) ?_; intro v w3 ho hb _ _; obtain ⟨ad, c1, hv, hc1, hC⟩ := lent_of ho; subst hv; have hcut := cut_h (P := Try.prog) 22 5 Try.underlying22 hi hz1 (some ad) (l.length + 3) c1 l.length (by omega); have HB := Lib.hid hb; have HC := Lib.hid hC; clear ho hb hC)
  go_ret
  exact ⟨ad, c1, rfl, ⟨hc1, HC.out⟩, HB.out⟩

theorem kept_at {w : World} {ad : Addr} {l : List Int} (h : Kd.C (Kd.int .u8) w (some ad) (l.length + 3) (l ++ [77, 78, 79])) (j : Nat) (hj : j < 3) : w.cell? (ad.add (l.length + j)) = some (.int .u8 (77 + j)) := by
  obtain ⟨a, e, hx⟩ := Kd.at_int h ((l.length + j : Nat) : Int) (by omega) (by omega)
  cases e
  rw [Int.toNat_natCast] at hx
  rw [hx]
  congr 2
  unfold rd
  rw [Int.toNat_natCast, List.getD_eq_getElem?_getD, List.getElem?_append_right (by omega), Nat.add_sub_cancel_left]
  match j, hj with
  | 0, _ => rfl
  | 1, _ => rfl
  | 2, _ => rfl

set_option maxHeartbeats 1000000 in
theorem kept_calls (ad : Addr) (cap : Nat) (A : Option Addr) (c : Nat) (l : List Int) (w : World) (hL : Lent w ad cap l) (hr : Kd.C (Kd.int .u8) w A l.length l) (hl : ∀ x ∈ l, 0 ≤ x ∧ x ≤ 255) (hlen : l.length ≤ 140737488355325) :
    Calls Try.prog 23 #[.slice (some ad) l.length cap, .slice A l.length c] w fun e w' => e = .returned (.bool true) ∧ Drawn0 w w' := by
  have hs := same_calls (some ad) cap l A c l w hL.reads hr hl hl
  rw [decide_eq_true (rfl : l = l)] at hs
  have HS := Lib.hid hs
  have hcap : (l.length : Int) + 3 ≤ (cap : Int) := by have := hL.1; omega
  have k0 : w.cell? (ad.add l.length) = some (.int .u8 77) := kept_at hL.2 0 (by decide)
  have k1 : w.cell? (ad.add (l.length + 1)) = some (.int .u8 78) := kept_at hL.2 1 (by decide)
  have k2 : w.cell? (ad.add (l.length + 2)) = some (.int .u8 79) := kept_at hL.2 2 (by decide)
  have k1' : w.cell? ⟨ad.block, ad.off + (l.length + 1), none⟩ = some (.int .u8 78) := by rw [← k1]; simp [Addr.add]
  have k2' : w.cell? ⟨ad.block, ad.off + (l.length + 2), none⟩ = some (.int .u8 79) := by rw [← k2]; simp [Addr.add]
  clear hr hl hL hs
  go_enter Try.func23, Try.ntmps23
  go_wp2_with fail
  refine HS.out.mono ?_
  rintro e w1 ⟨rfl, ⟨nd, rfl⟩⟩
  go_wp2
  go_ret
  exact ⟨rfl, by repeat (first | exact Drawn0.refl _ | apply Drawn0.step)⟩
end Go.Proofs.Ytnhkbjihgepapaa.Low
