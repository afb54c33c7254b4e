/- The octets' functions, as the print of Field takes them. -/
import Derived.Test.YtnhkbjihgepapaaOctPlain
set_option linter.unusedVariables false
namespace Go.Proofs.Ytnhkbjihgepapaa.Fd
open Go.RowKit Go.Proofs.YtnhkbjihgepapaaW.PrintWords Go.Proofs.Ytnhkbjihgepapaa.Oct
def ok16 (l : List Int) (v : Int) : Bool := decide (0 ≤ v ∧ v < 65536) && decide (l.length ≤ 140737488355320)
theorem ok16_mk {l : List Int} {v : Int} (h0 : 0 ≤ v) (h1 : v < 65536) (h2 : l.length ≤ 140737488355320) : ok16 l v = true := by unfold ok16; rw [decide_eq_true ⟨h0, h1⟩, decide_eq_true h2]; rfl
def okAdd1 (l : List Int) (v n : Int) : Bool := okAdd l v n && decide (1 ≤ n)
theorem okAdd1_mk {l : List Int} {v n : Int} (h0 : 0 ≤ v) (h1 : v < 18446744073709551616) (h2 : 1 ≤ n) (h3 : n ≤ 8) (h4 : l.length ≤ 140737488355320) : okAdd1 l v n = true := by unfold okAdd1; rw [okAdd_mk h0 h1 (by omega) h3 h4, decide_eq_true h2]; rfl
def okText (l : List Int) (s : ByteArray) : Bool := decide (l.length ≤ 140737488289790)
def addTextE (l : List Int) (s : ByteArray) : List Int × Int := if s.size ≤ 65535 then (addText l s, 0) else ([], 3)
section
variable (A0 : Option Addr) (c0 : Nat) (l0 : List Int)
theorem okAdd_all {l : List Int} {v n : Int} (h : okAdd l v n = true) : 0 ≤ v ∧ v < 18446744073709551616 ∧ 0 ≤ n ∧ n ≤ 8 ∧ l.length ≤ 140737488355320 := by
  unfold okAdd at h
  simp only [Bool.and_eq_true, decide_eq_true_eq] at h
  obtain ⟨⟨⟨⟨h0, h1⟩, h2⟩, h3⟩, h4⟩ := h
  exact ⟨h0, h1, h2, h3, h4⟩
theorem add64_ok (a1 : Int) (w : World) (hr0 : Kd.C (Kd.int .u8) w A0 l0.length l0) (ho : okAdd l0 a1 8 = true) : Calls Try.prog 46 #[.slice A0 l0.length c0, .int .u64 a1] w fun e w' => ∃ v0_ : Value, e = .returned (v0_) ∧ Kd.R (Kd.int .u8) 5 w' w.heap.size (fun _ => True) v0_ (l0 ++ be a1 8) ∧ Below w.heap.size w w' := by
  obtain ⟨h0, h1, h2, h3, h4⟩ := okAdd_all ho
  exact add64_calls A0 c0 l0 a1 w hr0 h4 h0 h1
theorem add16_ok (a1 : Int) (w : World) (hr0 : Kd.C (Kd.int .u8) w A0 l0.length l0) (ho : ok16 l0 a1 = true) : Calls Try.prog 48 #[.slice A0 l0.length c0, .int .u16 a1] w fun e w' => ∃ v0_ : Value, e = .returned (v0_) ∧ Kd.R (Kd.int .u8) 5 w' w.heap.size (fun _ => True) v0_ (l0 ++ be a1 2) ∧ Below w.heap.size w w' := by
  unfold ok16 at ho
  simp only [Bool.and_eq_true, decide_eq_true_eq] at ho
  exact add16_calls A0 c0 l0 a1 w hr0 ho.2 ho.1.1 ho.1.2
theorem refAdd_ok (a1 a2 : Int) (w : World) (hr0 : Kd.C (Kd.int .u8) w A0 l0.length l0) (ho : okAdd1 l0 a1 a2 = true) : Calls Try.prog 36 #[.slice A0 l0.length c0, .int .u64 a1, .int .i64 a2] w fun e w' => ∃ v0_ : Value, e = .returned (v0_) ∧ Kd.R (Kd.int .u8) 5 w' w.heap.size (fun _ => True) v0_ (l0 ++ be a1 a2.toNat) ∧ Below w.heap.size w w' := by
  unfold okAdd1 at ho
  rw [Bool.and_eq_true, decide_eq_true_eq] at ho
  obtain ⟨h0, h1, h2, h3, h4⟩ := okAdd_all ho.1
  obtain ⟨n, rfl⟩ : ∃ n : Nat, a2 = n := ⟨a2.toNat, by omega⟩
  exact refAdd_calls a1 n A0 c0 l0 w h0 h1 (by omega) (by omega) hr0 h4
theorem addText_ok (a1 : ByteArray) (w : World) (hr0 : Kd.C (Kd.int .u8) w A0 l0.length l0) (ho : okText l0 a1 = true) : Calls Try.prog 47 #[.slice A0 l0.length c0, .string a1] w fun e w' => ∃ v0_ : Value, e = .returned (.tuple #[v0_, .int .i64 (addTextE l0 a1).2]) ∧ Kd.R (Kd.int .u8) 5 w' w.heap.size (fun _ => True) v0_ (addTextE l0 a1).1 ∧ Below w.heap.size w w' := by
  unfold addTextE
  by_cases hs : a1.size ≤ 65535
  · rw [if_pos hs]
    exact addText_yes A0 c0 l0 a1 w hr0 (of_decide_eq_true ho) hs
  · rw [if_neg hs]
    refine (addText_no A0 c0 l0 a1 w (by omega)).mono ?_
    rintro e w' ⟨rfl, rfl⟩
    exact ⟨_, rfl, Kd.R_nil _ _ _ _ _, Below.refl _ _⟩
theorem refAddText_ok (a1 : ByteArray) (w : World) (hr0 : Kd.C (Kd.int .u8) w A0 l0.length l0) (ho : okText l0 a1 = true) : Calls Try.prog 37 #[.slice A0 l0.length c0, .string a1] w fun e w' => ∃ v0_ : Value, e = .returned (.tuple #[v0_, .int .i64 (addTextE l0 a1).2]) ∧ Kd.R (Kd.int .u8) 5 w' w.heap.size (fun _ => True) v0_ (addTextE l0 a1).1 ∧ Below w.heap.size w w' := by
  unfold addTextE
  by_cases hs : a1.size ≤ 65535
  · rw [if_pos hs]
    exact refAddText_yes A0 c0 l0 a1 w hr0 (of_decide_eq_true ho) hs
  · rw [if_neg hs]
    refine (refAddText_no A0 c0 l0 a1 w (by omega)).mono ?_
    rintro e w' ⟨rfl, rfl⟩
    exact ⟨_, rfl, Kd.R_nil _ _ _ _ _, Below.refl _ _⟩
end
end Go.Proofs.Ytnhkbjihgepapaa.Fd
