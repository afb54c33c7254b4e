/- A box of three cells, filled. -/
import Derived.Test.YthcikldhlohjbaaWWords
set_option linter.unusedVariables false
set_option linter.unusedSimpArgs false
namespace Go.Proofs.Ythcikldhlohjbaa.BoxG
open Go.RowKit Go.Proofs.YthcikldhlohjbaaW.PrintWords
theorem box_ne {g i j : Nat} (h : i ≠ j) : (⟨g, i, none⟩ : Addr) ≠ ⟨g, j, none⟩ := fun e => h (by injection e)
theorem oth (w : World) (g : Nat) {i j : Nat} (v : Value) (h : i ≠ j) : (w.setCell ⟨g, i, none⟩ v).cell? ⟨g, j, none⟩ = w.cell? ⟨g, j, none⟩ := by
  apply World.cell?_setCell_other
  exact box_ne h
theorem sam {w : World} {g i : Nat} {u : Value} (v : Value) (h : w.cell? ⟨g, i, none⟩ = some u) : (w.setCell ⟨g, i, none⟩ v).cell? ⟨g, i, none⟩ = some v := by
  apply World.cell?_setCell_same
  exact h
theorem box3 {w : World} {g : Nat} {v0 v1 v2 : Value} (h0 : w.cell? ⟨g, 0, none⟩ = some v0) (h1 : w.cell? ⟨g, 1, none⟩ = some v1) (h2 : w.cell? ⟨g, 2, none⟩ = some v2) (u0 u1 u2 : Value) :
    (((w.setCell ⟨g, 0, none⟩ u0).setCell ⟨g, 1, none⟩ u1).setCell ⟨g, 2, none⟩ u2).cell? ⟨g, 0, none⟩ = some u0 ∧
    (((w.setCell ⟨g, 0, none⟩ u0).setCell ⟨g, 1, none⟩ u1).setCell ⟨g, 2, none⟩ u2).cell? ⟨g, 1, none⟩ = some u1 ∧
    (((w.setCell ⟨g, 0, none⟩ u0).setCell ⟨g, 1, none⟩ u1).setCell ⟨g, 2, none⟩ u2).cell? ⟨g, 2, none⟩ = some u2 := by
  refine ⟨?_, ?_, ?_⟩
  · rw [oth _ _ _ (by decide), oth _ _ _ (by decide), sam _ h0]
  · rw [oth _ _ _ (by decide), sam _ ((oth _ _ _ (by decide)).trans h1)]
  · exact sam _ ((oth _ _ _ (by decide)).trans ((oth _ _ _ (by decide)).trans h2))
theorem box4 {w : World} {g : Nat} {v0 v1 v2 : Value} (h0 : w.cell? ⟨g, 0, none⟩ = some v0) (h1 : w.cell? ⟨g, 1, none⟩ = some v1) (h2 : w.cell? ⟨g, 2, none⟩ = some v2) (u0 u1 u2 u3 : Value) :
    ((((w.setCell ⟨g, 0, none⟩ u0).setCell ⟨g, 1, none⟩ u1).setCell ⟨g, 2, none⟩ u2).setCell ⟨g, 2, none⟩ u3).cell? ⟨g, 0, none⟩ = some u0 ∧
    ((((w.setCell ⟨g, 0, none⟩ u0).setCell ⟨g, 1, none⟩ u1).setCell ⟨g, 2, none⟩ u2).setCell ⟨g, 2, none⟩ u3).cell? ⟨g, 1, none⟩ = some u1 ∧
    ((((w.setCell ⟨g, 0, none⟩ u0).setCell ⟨g, 1, none⟩ u1).setCell ⟨g, 2, none⟩ u2).setCell ⟨g, 2, none⟩ u3).cell? ⟨g, 2, none⟩ = some u3 := by
  obtain ⟨a0, a1, a2⟩ := box3 h0 h1 h2 u0 u1 u2
  exact ⟨(oth _ _ _ (by decide)).trans a0, (oth _ _ _ (by decide)).trans a1, sam _ a2⟩
/-- All that a load may ask of the box, drawn or not. -/
theorem boxes {w : World} {g : Nat} {v0 v1 v2 : Value} (h0 : w.cell? ⟨g, 0, none⟩ = some v0) (h1 : w.cell? ⟨g, 1, none⟩ = some v1) (h2 : w.cell? ⟨g, 2, none⟩ = some v2) :
    (∀ u0 u1 u2, (((w.setCell ⟨g, 0, none⟩ u0).setCell ⟨g, 1, none⟩ u1).setCell ⟨g, 2, none⟩ u2).cell? ⟨g, 0, none⟩ = some u0) ∧
    (∀ u0 u1 u2, (((w.setCell ⟨g, 0, none⟩ u0).setCell ⟨g, 1, none⟩ u1).setCell ⟨g, 2, none⟩ u2).cell? ⟨g, 1, none⟩ = some u1) ∧
    (∀ u0 u1 u2, (((w.setCell ⟨g, 0, none⟩ u0).setCell ⟨g, 1, none⟩ u1).setCell ⟨g, 2, none⟩ u2).cell? ⟨g, 2, none⟩ = some u2) ∧
    (∀ u0 u1 u2 u3, ((((w.setCell ⟨g, 0, none⟩ u0).setCell ⟨g, 1, none⟩ u1).setCell ⟨g, 2, none⟩ u2).setCell ⟨g, 2, none⟩ u3).cell? ⟨g, 0, none⟩ = some u0) ∧
    (∀ u0 u1 u2 u3, ((((w.setCell ⟨g, 0, none⟩ u0).setCell ⟨g, 1, none⟩ u1).setCell ⟨g, 2, none⟩ u2).setCell ⟨g, 2, none⟩ u3).cell? ⟨g, 1, none⟩ = some u1) ∧
    (∀ u0 u1 u2 u3, ((((w.setCell ⟨g, 0, none⟩ u0).setCell ⟨g, 1, none⟩ u1).setCell ⟨g, 2, none⟩ u2).setCell ⟨g, 2, none⟩ u3).cell? ⟨g, 2, none⟩ = some u3) ∧
    (∀ n u0 u1 u2, ((((w.drewN n).setCell ⟨g, 0, none⟩ u0).setCell ⟨g, 1, none⟩ u1).setCell ⟨g, 2, none⟩ u2).cell? ⟨g, 0, none⟩ = some u0) ∧
    (∀ n u0 u1 u2, ((((w.drewN n).setCell ⟨g, 0, none⟩ u0).setCell ⟨g, 1, none⟩ u1).setCell ⟨g, 2, none⟩ u2).cell? ⟨g, 1, none⟩ = some u1) ∧
    (∀ n u0 u1 u2, ((((w.drewN n).setCell ⟨g, 0, none⟩ u0).setCell ⟨g, 1, none⟩ u1).setCell ⟨g, 2, none⟩ u2).cell? ⟨g, 2, none⟩ = some u2) ∧
    (∀ n u0 u1 u2 u3, (((((w.drewN n).setCell ⟨g, 0, none⟩ u0).setCell ⟨g, 1, none⟩ u1).setCell ⟨g, 2, none⟩ u2).setCell ⟨g, 2, none⟩ u3).cell? ⟨g, 0, none⟩ = some u0) ∧
    (∀ n u0 u1 u2 u3, (((((w.drewN n).setCell ⟨g, 0, none⟩ u0).setCell ⟨g, 1, none⟩ u1).setCell ⟨g, 2, none⟩ u2).setCell ⟨g, 2, none⟩ u3).cell? ⟨g, 1, none⟩ = some u1) ∧
    (∀ n u0 u1 u2 u3, (((((w.drewN n).setCell ⟨g, 0, none⟩ u0).setCell ⟨g, 1, none⟩ u1).setCell ⟨g, 2, none⟩ u2).setCell ⟨g, 2, none⟩ u3).cell? ⟨g, 2, none⟩ = some u3) :=
  ⟨fun u0 u1 u2 => (box3 (w := w) h0 h1 h2 u0 u1 u2).1,
   fun u0 u1 u2 => (box3 (w := w) h0 h1 h2 u0 u1 u2).2.1,
   fun u0 u1 u2 => (box3 (w := w) h0 h1 h2 u0 u1 u2).2.2,
   fun u0 u1 u2 u3 => (box4 (w := w) h0 h1 h2 u0 u1 u2 u3).1,
   fun u0 u1 u2 u3 => (box4 (w := w) h0 h1 h2 u0 u1 u2 u3).2.1,
   fun u0 u1 u2 u3 => (box4 (w := w) h0 h1 h2 u0 u1 u2 u3).2.2,
   fun n u0 u1 u2 => (box3 (w := w.drewN n) h0 h1 h2 u0 u1 u2).1,
   fun n u0 u1 u2 => (box3 (w := w.drewN n) h0 h1 h2 u0 u1 u2).2.1,
   fun n u0 u1 u2 => (box3 (w := w.drewN n) h0 h1 h2 u0 u1 u2).2.2,
   fun n u0 u1 u2 u3 => (box4 (w := w.drewN n) h0 h1 h2 u0 u1 u2 u3).1,
   fun n u0 u1 u2 u3 => (box4 (w := w.drewN n) h0 h1 h2 u0 u1 u2 u3).2.1,
   fun n u0 u1 u2 u3 => (box4 (w := w.drewN n) h0 h1 h2 u0 u1 u2 u3).2.2⟩
end Go.Proofs.Ythcikldhlohjbaa.BoxG
