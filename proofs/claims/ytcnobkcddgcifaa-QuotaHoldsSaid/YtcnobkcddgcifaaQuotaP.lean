/- What runs, in plain Lean. (A part of the print PT.) -/
import Derived.Test.YtcnobkcddgcifaaPTx0
set_option linter.unusedVariables false
set_option linter.unusedSimpArgs false
namespace Go.Proofs.Ytcnobkcddgcifaa.PT
open Go.RowKit Go.Proofs.YtcnobkcddgcifaaW.PrintWords
/-- Nodes and cores of which something is promised. -/
def tameS (s : S32) : Bool := decide (1 ≤ s.f4 ∧ s.f4 ≤ 64 ∧ 1 ≤ s.f5 ∧ s.f5 ≤ 64)
def Tame (l : List S53) : Prop := (∀ x ∈ l, tameS x.f3 = true) ∧ l.length ≤ 1000000
/-- Does a job run, and is it so? -/
def hit (p : S32 → Bool) (x : S53) : Bool := x.f4 == 2 && p x.f3
def oneQ (p : S32 → Bool) (x : S53) : Int := if hit p x = true then x.f3.f4 * x.f3.f5 else 0
def sumQ (p : S32 → Bool) (l : List S53) : Int := (l.map (oneQ p)).sum
def numQ (p : S32 → Bool) (l : List S53) : Nat := l.countP (hit p)
theorem tame_iff (s : S32) : tameS s = true ↔ 1 ≤ s.f4 ∧ s.f4 ≤ 64 ∧ 1 ≤ s.f5 ∧ s.f5 ≤ 64 := by unfold tameS; exact decide_eq_true_iff
theorem mul_range {a b : Int} (h1 : 1 ≤ a) (h2 : a ≤ 64) (h3 : 1 ≤ b) (h4 : b ≤ 64) : 0 ≤ a * b ∧ a * b ≤ 4096 :=
  ⟨Int.mul_nonneg (by omega) (by omega), Int.le_trans (Int.mul_le_mul h2 h4 (by omega) (by omega)) (by decide)⟩
theorem one_range (p : S32 → Bool) {x : S53} (h : tameS x.f3 = true) : 0 ≤ oneQ p x ∧ oneQ p x ≤ 4096 := by
  obtain ⟨h1, h2, h3, h4⟩ := (tame_iff _).1 h
  unfold oneQ
  split
  · exact mul_range h1 h2 h3 h4
  · exact ⟨Int.le_refl _, by decide⟩
theorem sum_app (p : S32 → Bool) (a b : List S53) : sumQ p (a ++ b) = sumQ p a + sumQ p b := by unfold sumQ; rw [List.map_append, List.sum_append]
theorem num_app (p : S32 → Bool) (a b : List S53) : numQ p (a ++ b) = numQ p a + numQ p b := by unfold numQ; rw [List.countP_append]
theorem sum_range (p : S32 → Bool) : ∀ l : List S53, (∀ x ∈ l, tameS x.f3 = true) → 0 ≤ sumQ p l ∧ sumQ p l ≤ 4096 * (l.length : Int)
  | [], _ => ⟨Int.le_refl _, Int.le_refl _⟩
  | x :: l, h => by
    have h1 := one_range p (h x (List.mem_cons_self ..))
    have h2 := sum_range p l (fun y hy => h y (List.mem_cons_of_mem _ hy))
    have e : sumQ p (x :: l) = oneQ p x + sumQ p l := by unfold sumQ; rw [List.map_cons, List.sum_cons]
    rw [e, List.length_cons]
    omega
theorem num_le (p : S32 → Bool) (l : List S53) : numQ p l ≤ l.length := List.countP_le_length
theorem sum_take (p : S32 → Bool) (l : List S53) (j : Nat) (h : j < l.length) : sumQ p (l.take (j + 1)) = sumQ p (l.take j) + oneQ p l[j] := by
  rw [List.take_succ_eq_append_getElem h, sum_app]
  congr 1
  unfold sumQ
  rw [List.map_cons, List.map_nil, List.sum_cons, List.sum_nil]
  omega
theorem num_take (p : S32 → Bool) (l : List S53) (j : Nat) (h : j < l.length) : numQ p (l.take (j + 1)) = numQ p (l.take j) + (if hit p l[j] = true then 1 else 0) := by
  rw [List.take_succ_eq_append_getElem h, num_app]
  congr 1
  unfold numQ
  rw [List.countP_cons, List.countP_nil]
  omega
theorem Tame.take {p : S32 → Bool} {l : List S53} (h : Tame l) (j : Nat) : 0 ≤ sumQ p (l.take j) ∧ sumQ p (l.take j) ≤ 4096 * (l.length : Int) ∧ numQ p (l.take j) ≤ l.length := by
  have h1 := sum_range p (l.take j) (fun x hx => h.1 x (List.mem_of_mem_take hx))
  have h2 := num_le p (l.take j)
  have h3 : (l.take j).length ≤ l.length := by rw [List.length_take]; omega
  omega
end Go.Proofs.Ytcnobkcddgcifaa.PT
