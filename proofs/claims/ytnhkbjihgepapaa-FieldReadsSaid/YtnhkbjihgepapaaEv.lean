/- Functions with rounds: what they tell with enough rounds ('Ev'), step by step. -/
import Derived.Test.YtnhkbjihgepapaaWWords
set_option linter.unusedVariables false
namespace Go.Proofs.Ytnhkbjihgepapaa.EvK
open Go.RowKit Go.Proofs.YtnhkbjihgepapaaW.PrintWords
section
variable {α β : Type} {f g : Nat → Option α} {r : α}
theorem Ev.pos {c : Prop} [Decidable c] (hc : c) (h : Ev f r) : Ev (fun k => if c then f k else g k) r := by simp only [if_pos hc]; exact h
theorem Ev.neg {c : Prop} [Decidable c] (hc : ¬ c) (h : Ev g r) : Ev (fun k => if c then f k else g k) r := by simp only [if_neg hc]; exact h
theorem Ev.bnd {a : α} {h : Nat → α → Option β} {s : β} (h1 : Ev f a) (h2 : Ev (fun k => h k a) s) : Ev (fun k => (f k).bind (h k)) s := by
  obtain ⟨K1, h1⟩ := h1
  obtain ⟨K2, h2⟩ := h2
  exact ⟨max K1 K2, fun k hk => by show (f k).bind (h k) = some s; rw [h1 k (by omega), Option.bind_some]; exact h2 k (by omega)⟩
theorem Ev.sbnd {a : α} {h : Nat → α → Option β} {s : β} (h2 : Ev (fun k => h k a) s) : Ev (fun k => (some a).bind (h k)) s := by simpa using h2
theorem Ev.one {s : α} (h : r = s) : Ev (fun _ => some r) s := ⟨0, fun _ _ => by rw [h]⟩
theorem Ev.const {x : Option α} (h : x = some r) : Ev (fun _ => x) r := ⟨0, fun _ _ => h⟩
theorem Ev.stp (h : ∀ k, g (k + 1) = f k) (k : Ev f r) : Ev g r := Ev.step h k
theorem Ev.the (h : Ev f r) : ∃ k, f k = some r := Ev.rounds h
end
theorem wr1 {j : Nat} (h : j < 9000000000000000000) : wrap64 ((j : Int) + 1) = ((j + 1 : Nat) : Int) := by unfold wrap64; omega
theorem rd_nat (l : List Int) (j : Nat) (h : j < l.length) : rd l (j : Int) = l[j] := by unfold rd; simp [List.getD, h]
end Go.Proofs.Ytnhkbjihgepapaa.EvK
