-- printed by wprint.py (this session's program over the kit's print.py)
import Derived.Test.YthcikldhlohjbaaPNx0
import Derived.Test.YthcikldhlohjbaaPNx3
import Derived.Test.YthcikldhlohjbaaPNx4
import Derived.Test.YthcikldhlohjbaaPNx6
import Derived.Test.YthcikldhlohjbaaPNx7
import Derived.Test.YthcikldhlohjbaaPNx8
import Derived.Test.YthcikldhlohjbaaPNx9
import Derived.Test.YthcikldhlohjbaaPNx11
import Derived.Test.YthcikldhlohjbaaPNx12
import Derived.Test.YthcikldhlohjbaaPNx13
namespace Go.Proofs.Ythcikldhlohjbaa.PN
open Go.RowKit Go.Proofs.YthcikldhlohjbaaW.PrintWords Go.Proofs.YthcikldhlohjbaaW.PrintLast Go.Proofs.YthcikldhlohjbaaW.PrintMore
attribute [local go_sem] max2_int min2_int max_two min_two max_three min_three max_four min_four   -- for this text's walks alone
set_option linter.unusedVariables false
set_option linter.unusedSimpArgs false

/-! ### musterlaw13_NodesTells: function 7 -/
mutual
def musterlaw13_NodesTells.j0 : Nat → List (S55) → Int → List (S55) → List (S55) → List (S55) → Bool → Option (Bool)
  | 0, _, _, _, _, _, _ => none
  | k + 1, x1, x2, x7, x12, x16, x100 => if x100 = true then (some false) else ((nodes_Up.f x7).bind fun t274 => ((musterref13_Up.f k x1).bind fun t275 => (if t274 = t275 then ((nodes_Cores.f k x7).bind fun t276 => ((musterref13_Cores.f k x1).bind fun t279 => ((musterkit_SameInts.f k t276 t279).bind fun t282 => (if t282 = true then ((nodes_Able.f x7 ((x2) % 4294967296) (Int.tmod x2 70)).bind fun t283 => ((musterref13_Able.f k x1 ((x2) % 4294967296) (Int.tmod x2 70)).bind fun t284 => (musterlaw13_NodesTells.j1 k x1 x7 x12 x16 (t283 != t284)))) else (musterlaw13_NodesTells.j1 k x1 x7 x12 x16 true))))) else (musterlaw13_NodesTells.j1 k x1 x7 x12 x16 true))))
def musterlaw13_NodesTells.j1 : Nat → List (S55) → List (S55) → List (S55) → List (S55) → Bool → Option (Bool)
  | 0, _, _, _, _, _ => none
  | k + 1, x1, x7, x12, x16, x128 => if x128 = true then (some false) else (musterlaw13_NodesTells.l0 k x1 x7 x12 x16 0)
def musterlaw13_NodesTells.l0 : Nat → List (S55) → List (S55) → List (S55) → List (S55) → Int → Option (Bool)
  | 0, _, _, _, _, _ => none
  | k + 1, x1, x7, x12, x16, x20 => if x20 < (x12.length : Int) then (if 0 ≤ x20 then (musterlaw13_NodesTells.l0 k x1 x7 (x12.set (x20 : Int).toNat (⟨99, (rd_T55 x12 x20).f1, (rd_T55 x12 x20).f2⟩ : S55)) x16 (wrap64 (x20 + 1))) else (none)) else (musterlaw13_NodesTells.l1 k x1 x7 x16 0)
def musterlaw13_NodesTells.l1 : Nat → List (S55) → List (S55) → List (S55) → Int → Option (Bool)
  | 0, _, _, _, _ => none
  | k + 1, x1, x7, x16, x21 => if x21 < (x16.length : Int) then (if 0 ≤ x21 then (musterlaw13_NodesTells.l1 k x1 x7 (x16.set (x21 : Int).toNat (⟨99, (rd_T55 x16 x21).f1, (rd_T55 x16 x21).f2⟩ : S55)) (wrap64 (x21 + 1))) else (none)) else ((musterkit_SameNodes.f k x7 x1).bind fun t287 => (if t287 = true then ((musterlaw13_awake.f k).bind fun t288 => (some t288)) else (some false)))
end
def musterlaw13_NodesTells.f (k : Nat) (l0 : List Int) (l1 : List (S55)) (a2 : Int) : Option (Bool) := (musterkit_CopyNodes.f k l1).bind fun t242 => ((nodes_New.f k l0).bind fun bt245 => ((musterref13_New.f k l0).bind fun bt249 => ((nodes_Fail.f t242 a2).bind fun bt253 => ((musterref13_Fail.f k l1 a2).bind fun bt257 => ((nodes_Rise.f t242 a2).bind fun bt261 => ((musterref13_Rise.f k l1 a2).bind fun bt265 => ((musterkit_SameNodes.f k bt245.1 bt249.1).bind fun t269 => (if t269 = true then (if bt245.2 = bt249.2 then ((musterkit_SameNodes.f k bt253.1 bt257.1).bind fun t270 => (if t270 = true then (if bt253.2 = bt257.2 then ((musterkit_SameNodes.f k bt261.1 bt265.1).bind fun t271 => (if t271 = true then (if bt261.2 = bt265.2 then ((nodes_Right.f t242).bind fun t272 => ((musterref13_Right.f k l1).bind fun t273 => (musterlaw13_NodesTells.j0 k l1 a2 t242 bt253.1 bt261.1 (t272 != t273)))) else (musterlaw13_NodesTells.j0 k l1 a2 t242 bt253.1 bt261.1 true)) else (musterlaw13_NodesTells.j0 k l1 a2 t242 bt253.1 bt261.1 true))) else (musterlaw13_NodesTells.j0 k l1 a2 t242 bt253.1 bt261.1 true)) else (musterlaw13_NodesTells.j0 k l1 a2 t242 bt253.1 bt261.1 true))) else (musterlaw13_NodesTells.j0 k l1 a2 t242 bt253.1 bt261.1 true)) else (musterlaw13_NodesTells.j0 k l1 a2 t242 bt253.1 bt261.1 true)))))))))
theorem musterlaw13_NodesTells.mono_l : ∀ k, (∀ y0 y1 y2 y3 y4 y5, LeO (musterlaw13_NodesTells.j0 k y0 y1 y2 y3 y4 y5) (musterlaw13_NodesTells.j0 (k + 1) y0 y1 y2 y3 y4 y5)) ∧ (∀ y0 y1 y2 y3 y4, LeO (musterlaw13_NodesTells.j1 k y0 y1 y2 y3 y4) (musterlaw13_NodesTells.j1 (k + 1) y0 y1 y2 y3 y4)) ∧ (∀ y0 y1 y2 y3 y4, LeO (musterlaw13_NodesTells.l0 k y0 y1 y2 y3 y4) (musterlaw13_NodesTells.l0 (k + 1) y0 y1 y2 y3 y4)) ∧ (∀ y0 y1 y2 y3, LeO (musterlaw13_NodesTells.l1 k y0 y1 y2 y3) (musterlaw13_NodesTells.l1 (k + 1) y0 y1 y2 y3))
  | 0 => ⟨fun _ _ _ _ _ _ r h => by simp [musterlaw13_NodesTells.j0] at h, fun _ _ _ _ _ r h => by simp [musterlaw13_NodesTells.j1] at h, fun _ _ _ _ _ r h => by simp [musterlaw13_NodesTells.l0] at h, fun _ _ _ _ r h => by simp [musterlaw13_NodesTells.l1] at h⟩
  | k + 1 => by
    obtain ⟨ih0, ih1, ih2, ih3⟩ := musterlaw13_NodesTells.mono_l k
    refine ⟨?_, ?_, ?_, ?_⟩
    · intro y0 y1 y2 y3 y4 y5
      unfold musterlaw13_NodesTells.j0
      repeat' first
      | (with_reducible exact ih0 _ _ _ _ _ _)
      | (with_reducible exact ih1 _ _ _ _ _)
      | (with_reducible exact ih2 _ _ _ _ _)
      | (with_reducible exact ih3 _ _ _ _)
      | (with_reducible exact musterkit_CopyNodes.mono _ _)
      | (with_reducible exact musterkit_SameInts.mono _ _ _)
      | (with_reducible exact musterkit_SameNodes.mono _ _ _)
      | (with_reducible exact musterlaw13_awake.mono _)
      | (with_reducible exact musterref13_Able.mono _ _ _ _)
      | (with_reducible exact musterref13_Cores.mono _ _)
      | (with_reducible exact musterref13_Fail.mono _ _ _)
      | (with_reducible exact musterref13_New.mono _ _)
      | (with_reducible exact musterref13_Right.mono _ _)
      | (with_reducible exact musterref13_Rise.mono _ _ _)
      | (with_reducible exact musterref13_Up.mono _ _)
      | (with_reducible exact nodes_Cores.mono _ _)
      | (with_reducible exact nodes_New.mono _ _)
      | (with_reducible exact LeO.refl _)
      | (with_reducible exact LeO.none _)
      | (with_reducible refine LeO.ite ?_ ?_)
      | (with_reducible refine LeO.bind ?_ (fun _ => ?_))
      | exact ih0 _ _ _ _ _ _
      | exact ih1 _ _ _ _ _
      | exact ih2 _ _ _ _ _
      | exact ih3 _ _ _ _
      | exact musterkit_CopyNodes.mono _ _
      | exact musterkit_SameInts.mono _ _ _
      | exact musterkit_SameNodes.mono _ _ _
      | exact musterlaw13_awake.mono _
      | exact musterref13_Able.mono _ _ _ _
      | exact musterref13_Cores.mono _ _
      | exact musterref13_Fail.mono _ _ _
      | exact musterref13_New.mono _ _
      | exact musterref13_Right.mono _ _
      | exact musterref13_Rise.mono _ _ _
      | exact musterref13_Up.mono _ _
      | exact nodes_Cores.mono _ _
      | exact nodes_New.mono _ _
      | exact LeO.none _
      | refine LeO.ite ?_ ?_
      | refine LeO.bind ?_ (fun _ => ?_)
    · intro y0 y1 y2 y3 y4
      unfold musterlaw13_NodesTells.j1
      repeat' first
      | (with_reducible exact ih0 _ _ _ _ _ _)
      | (with_reducible exact ih1 _ _ _ _ _)
      | (with_reducible exact ih2 _ _ _ _ _)
      | (with_reducible exact ih3 _ _ _ _)
      | (with_reducible exact musterkit_CopyNodes.mono _ _)
      | (with_reducible exact musterkit_SameInts.mono _ _ _)
      | (with_reducible exact musterkit_SameNodes.mono _ _ _)
      | (with_reducible exact musterlaw13_awake.mono _)
      | (with_reducible exact musterref13_Able.mono _ _ _ _)
      | (with_reducible exact musterref13_Cores.mono _ _)
      | (with_reducible exact musterref13_Fail.mono _ _ _)
      | (with_reducible exact musterref13_New.mono _ _)
      | (with_reducible exact musterref13_Right.mono _ _)
      | (with_reducible exact musterref13_Rise.mono _ _ _)
      | (with_reducible exact musterref13_Up.mono _ _)
      | (with_reducible exact nodes_Cores.mono _ _)
      | (with_reducible exact nodes_New.mono _ _)
      | (with_reducible exact LeO.refl _)
      | (with_reducible exact LeO.none _)
      | (with_reducible refine LeO.ite ?_ ?_)
      | (with_reducible refine LeO.bind ?_ (fun _ => ?_))
      | exact ih0 _ _ _ _ _ _
      | exact ih1 _ _ _ _ _
      | exact ih2 _ _ _ _ _
      | exact ih3 _ _ _ _
      | exact musterkit_CopyNodes.mono _ _
      | exact musterkit_SameInts.mono _ _ _
      | exact musterkit_SameNodes.mono _ _ _
      | exact musterlaw13_awake.mono _
      | exact musterref13_Able.mono _ _ _ _
      | exact musterref13_Cores.mono _ _
      | exact musterref13_Fail.mono _ _ _
      | exact musterref13_New.mono _ _
      | exact musterref13_Right.mono _ _
      | exact musterref13_Rise.mono _ _ _
      | exact musterref13_Up.mono _ _
      | exact nodes_Cores.mono _ _
      | exact nodes_New.mono _ _
      | exact LeO.none _
      | refine LeO.ite ?_ ?_
      | refine LeO.bind ?_ (fun _ => ?_)
    · intro y0 y1 y2 y3 y4
      unfold musterlaw13_NodesTells.l0
      repeat' first
      | (with_reducible exact ih0 _ _ _ _ _ _)
      | (with_reducible exact ih1 _ _ _ _ _)
      | (with_reducible exact ih2 _ _ _ _ _)
      | (with_reducible exact ih3 _ _ _ _)
      | (with_reducible exact musterkit_CopyNodes.mono _ _)
      | (with_reducible exact musterkit_SameInts.mono _ _ _)
      | (with_reducible exact musterkit_SameNodes.mono _ _ _)
      | (with_reducible exact musterlaw13_awake.mono _)
      | (with_reducible exact musterref13_Able.mono _ _ _ _)
      | (with_reducible exact musterref13_Cores.mono _ _)
      | (with_reducible exact musterref13_Fail.mono _ _ _)
      | (with_reducible exact musterref13_New.mono _ _)
      | (with_reducible exact musterref13_Right.mono _ _)
      | (with_reducible exact musterref13_Rise.mono _ _ _)
      | (with_reducible exact musterref13_Up.mono _ _)
      | (with_reducible exact nodes_Cores.mono _ _)
      | (with_reducible exact nodes_New.mono _ _)
      | (with_reducible exact LeO.refl _)
      | (with_reducible exact LeO.none _)
      | (with_reducible refine LeO.ite ?_ ?_)
      | (with_reducible refine LeO.bind ?_ (fun _ => ?_))
      | exact ih0 _ _ _ _ _ _
      | exact ih1 _ _ _ _ _
      | exact ih2 _ _ _ _ _
      | exact ih3 _ _ _ _
      | exact musterkit_CopyNodes.mono _ _
      | exact musterkit_SameInts.mono _ _ _
      | exact musterkit_SameNodes.mono _ _ _
      | exact musterlaw13_awake.mono _
      | exact musterref13_Able.mono _ _ _ _
      | exact musterref13_Cores.mono _ _
      | exact musterref13_Fail.mono _ _ _
      | exact musterref13_New.mono _ _
      | exact musterref13_Right.mono _ _
      | exact musterref13_Rise.mono _ _ _
      | exact musterref13_Up.mono _ _
      | exact nodes_Cores.mono _ _
      | exact nodes_New.mono _ _
      | exact LeO.none _
      | refine LeO.ite ?_ ?_
      | refine LeO.bind ?_ (fun _ => ?_)
    · intro y0 y1 y2 y3
      unfold musterlaw13_NodesTells.l1
      repeat' first
      | (with_reducible exact ih0 _ _ _ _ _ _)
      | (with_reducible exact ih1 _ _ _ _ _)
      | (with_reducible exact ih2 _ _ _ _ _)
      | (with_reducible exact ih3 _ _ _ _)
      | (with_reducible exact musterkit_CopyNodes.mono _ _)
      | (with_reducible exact musterkit_SameInts.mono _ _ _)
      | (with_reducible exact musterkit_SameNodes.mono _ _ _)
      | (with_reducible exact musterlaw13_awake.mono _)
      | (with_reducible exact musterref13_Able.mono _ _ _ _)
      | (with_reducible exact musterref13_Cores.mono _ _)
      | (with_reducible exact musterref13_Fail.mono _ _ _)
      | (with_reducible exact musterref13_New.mono _ _)
      | (with_reducible exact musterref13_Right.mono _ _)
      | (with_reducible exact musterref13_Rise.mono _ _ _)
      | (with_reducible exact musterref13_Up.mono _ _)
      | (with_reducible exact nodes_Cores.mono _ _)
      | (with_reducible exact nodes_New.mono _ _)
      | (with_reducible exact LeO.refl _)
      | (with_reducible exact LeO.none _)
      | (with_reducible refine LeO.ite ?_ ?_)
      | (with_reducible refine LeO.bind ?_ (fun _ => ?_))
      | exact ih0 _ _ _ _ _ _
      | exact ih1 _ _ _ _ _
      | exact ih2 _ _ _ _ _
      | exact ih3 _ _ _ _
      | exact musterkit_CopyNodes.mono _ _
      | exact musterkit_SameInts.mono _ _ _
      | exact musterkit_SameNodes.mono _ _ _
      | exact musterlaw13_awake.mono _
      | exact musterref13_Able.mono _ _ _ _
      | exact musterref13_Cores.mono _ _
      | exact musterref13_Fail.mono _ _ _
      | exact musterref13_New.mono _ _
      | exact musterref13_Right.mono _ _
      | exact musterref13_Rise.mono _ _ _
      | exact musterref13_Up.mono _ _
      | exact nodes_Cores.mono _ _
      | exact nodes_New.mono _ _
      | exact LeO.none _
      | refine LeO.ite ?_ ?_
      | refine LeO.bind ?_ (fun _ => ?_)
theorem musterlaw13_NodesTells.mono : ∀ a0 a1 a2 k, LeO (musterlaw13_NodesTells.f k a0 a1 a2) (musterlaw13_NodesTells.f (k + 1) a0 a1 a2) := by
  intro a0 a1 a2 k
  obtain ⟨ih0, ih1, ih2, ih3⟩ := musterlaw13_NodesTells.mono_l k
  unfold musterlaw13_NodesTells.f
  repeat' first
      | (with_reducible exact ih0 _ _ _ _ _ _)
      | (with_reducible exact ih1 _ _ _ _ _)
      | (with_reducible exact ih2 _ _ _ _ _)
      | (with_reducible exact ih3 _ _ _ _)
      | (with_reducible exact musterkit_CopyNodes.mono _ _)
      | (with_reducible exact musterkit_SameInts.mono _ _ _)
      | (with_reducible exact musterkit_SameNodes.mono _ _ _)
      | (with_reducible exact musterlaw13_awake.mono _)
      | (with_reducible exact musterref13_Able.mono _ _ _ _)
      | (with_reducible exact musterref13_Cores.mono _ _)
      | (with_reducible exact musterref13_Fail.mono _ _ _)
      | (with_reducible exact musterref13_New.mono _ _)
      | (with_reducible exact musterref13_Right.mono _ _)
      | (with_reducible exact musterref13_Rise.mono _ _ _)
      | (with_reducible exact musterref13_Up.mono _ _)
      | (with_reducible exact nodes_Cores.mono _ _)
      | (with_reducible exact nodes_New.mono _ _)
      | (with_reducible exact LeO.refl _)
      | (with_reducible exact LeO.none _)
      | (with_reducible refine LeO.ite ?_ ?_)
      | (with_reducible refine LeO.bind ?_ (fun _ => ?_))
      | exact ih0 _ _ _ _ _ _
      | exact ih1 _ _ _ _ _
      | exact ih2 _ _ _ _ _
      | exact ih3 _ _ _ _
      | exact musterkit_CopyNodes.mono _ _
      | exact musterkit_SameInts.mono _ _ _
      | exact musterkit_SameNodes.mono _ _ _
      | exact musterlaw13_awake.mono _
      | exact musterref13_Able.mono _ _ _ _
      | exact musterref13_Cores.mono _ _
      | exact musterref13_Fail.mono _ _ _
      | exact musterref13_New.mono _ _
      | exact musterref13_Right.mono _ _
      | exact musterref13_Rise.mono _ _ _
      | exact musterref13_Up.mono _ _
      | exact nodes_Cores.mono _ _
      | exact nodes_New.mono _ _
      | exact LeO.none _
      | refine LeO.ite ?_ ?_
      | refine LeO.bind ?_ (fun _ => ?_)
def cutTo {α : Type} (n : Nat) (l : List α) : List α := if n < l.length then l.take n else l
theorem cutTo_len {α : Type} (n : Nat) (l : List α) : (cutTo n l).length = if n < l.length then n else l.length := by unfold cutTo; split <;> simp; omega
theorem cutTo_le {α : Type} (n : Nat) (l : List α) : (cutTo n l).length ≤ l.length := by rw [cutTo_len]; split <;> omega
theorem cutTo_C {α : Type} {d : Kd α} {w : World} {A : Option Addr} {n : Nat} {l : List α} (h : d.C w A l.length l) : d.C w A (cutTo n l).length (cutTo n l) := by
  unfold cutTo
  split
  · exact Kd.C_take h (by omega)
  · exact h
set_option maxHeartbeats 8000000 in
set_option maxRecDepth 100000 in
theorem musterlaw13_NodesTells.calls (k : Nat) (A0 : Option Addr) (c0 : Nat) (l0 : List Int) (A1 : Option Addr) (c1 : Nat) (y1 : List (S55)) (a2 : Int) (r : Bool) (w : World) (hr0 : Kd.C (Kd.int .i64) w A0 l0.length l0) (hc0 : l0.length ≤ c0) (hq1 : Kd.C k55 w A1 y1.length y1) (hy1 : y1.length ≤ c1) (h' : musterlaw13_NodesTells.f k l0 (cutTo 200 y1) a2 = some r) :
    Calls Try.prog 7 #[.slice A0 l0.length c0, .slice A1 y1.length c1, .int .i64 a2] w fun e w' => e = .returned (.bool r) ∧ Below w.heap.size w w' := by
  obtain ⟨l1, HL, hr1, hc1, h⟩ : ∃ l1, Aside0 (l1 = cutTo 200 y1) ∧ Kd.C k55 w A1 l1.length l1 ∧ l1.length ≤ c1 ∧ musterlaw13_NodesTells.f k l0 l1 a2 = some r := ⟨_, ⟨rfl⟩, cutTo_C hq1, Nat.le_trans (cutTo_le 200 y1) hy1, h'⟩
  have HY := Aside0.mk hq1
  have HYc := Aside0.mk hy1
  have HYl := Aside0.mk hq1.2.1
  clear hq1 hy1 h'
  have HR0 := Aside0.mk hr0
  have HC0 := Aside0.mk hc0
  clear hr0 hc0
  have HR1 := Aside0.mk hr1
  have HC1 := Aside0.mk hc1
  clear hr1 hc1
  have HB := Aside0.mk (Below.refl w.heap.size w)
  have H : ((musterkit_CopyNodes.f k l1).bind fun t242 => ((nodes_New.f k l0).bind fun bt245 => ((musterref13_New.f k l0).bind fun bt249 => ((nodes_Fail.f t242 a2).bind fun bt253 => ((musterref13_Fail.f k l1 a2).bind fun bt257 => ((nodes_Rise.f t242 a2).bind fun bt261 => ((musterref13_Rise.f k l1 a2).bind fun bt265 => ((musterkit_SameNodes.f k bt245.1 bt249.1).bind fun t269 => (if t269 = true then (if bt245.2 = bt249.2 then ((musterkit_SameNodes.f k bt253.1 bt257.1).bind fun t270 => (if t270 = true then (if bt253.2 = bt257.2 then ((musterkit_SameNodes.f k bt261.1 bt265.1).bind fun t271 => (if t271 = true then (if bt261.2 = bt265.2 then ((nodes_Right.f t242).bind fun t272 => ((musterref13_Right.f k l1).bind fun t273 => (musterlaw13_NodesTells.j0 k l1 a2 t242 bt253.1 bt261.1 (t272 != t273)))) else (musterlaw13_NodesTells.j0 k l1 a2 t242 bt253.1 bt261.1 true)) else (musterlaw13_NodesTells.j0 k l1 a2 t242 bt253.1 bt261.1 true))) else (musterlaw13_NodesTells.j0 k l1 a2 t242 bt253.1 bt261.1 true)) else (musterlaw13_NodesTells.j0 k l1 a2 t242 bt253.1 bt261.1 true))) else (musterlaw13_NodesTells.j0 k l1 a2 t242 bt253.1 bt261.1 true)) else (musterlaw13_NodesTells.j0 k l1 a2 t242 bt253.1 bt261.1 true)))))))))) = some r := h
  clear h
  replace H := Option.bind_eq_some_iff.mp H
  obtain ⟨t242, A40, H⟩ := H
  replace H : ((nodes_New.f k l0).bind fun bt245 => ((musterref13_New.f k l0).bind fun bt249 => ((nodes_Fail.f t242 a2).bind fun bt253 => ((musterref13_Fail.f k l1 a2).bind fun bt257 => ((nodes_Rise.f t242 a2).bind fun bt261 => ((musterref13_Rise.f k l1 a2).bind fun bt265 => ((musterkit_SameNodes.f k bt245.1 bt249.1).bind fun t269 => (if t269 = true then (if bt245.2 = bt249.2 then ((musterkit_SameNodes.f k bt253.1 bt257.1).bind fun t270 => (if t270 = true then (if bt253.2 = bt257.2 then ((musterkit_SameNodes.f k bt261.1 bt265.1).bind fun t271 => (if t271 = true then (if bt261.2 = bt265.2 then ((nodes_Right.f t242).bind fun t272 => ((musterref13_Right.f k l1).bind fun t273 => (musterlaw13_NodesTells.j0 k l1 a2 t242 bt253.1 bt261.1 (t272 != t273)))) else (musterlaw13_NodesTells.j0 k l1 a2 t242 bt253.1 bt261.1 true)) else (musterlaw13_NodesTells.j0 k l1 a2 t242 bt253.1 bt261.1 true))) else (musterlaw13_NodesTells.j0 k l1 a2 t242 bt253.1 bt261.1 true)) else (musterlaw13_NodesTells.j0 k l1 a2 t242 bt253.1 bt261.1 true))) else (musterlaw13_NodesTells.j0 k l1 a2 t242 bt253.1 bt261.1 true)) else (musterlaw13_NodesTells.j0 k l1 a2 t242 bt253.1 bt261.1 true))))))))) = some r := H
  have A4 := Aside0.mk A40
  clear A40
  replace H := Option.bind_eq_some_iff.mp H
  obtain ⟨⟨t245, t246⟩, A50, H⟩ := H
  replace H : ((musterref13_New.f k l0).bind fun bt249 => ((nodes_Fail.f t242 a2).bind fun bt253 => ((musterref13_Fail.f k l1 a2).bind fun bt257 => ((nodes_Rise.f t242 a2).bind fun bt261 => ((musterref13_Rise.f k l1 a2).bind fun bt265 => ((musterkit_SameNodes.f k t245 bt249.1).bind fun t269 => (if t269 = true then (if t246 = bt249.2 then ((musterkit_SameNodes.f k bt253.1 bt257.1).bind fun t270 => (if t270 = true then (if bt253.2 = bt257.2 then ((musterkit_SameNodes.f k bt261.1 bt265.1).bind fun t271 => (if t271 = true then (if bt261.2 = bt265.2 then ((nodes_Right.f t242).bind fun t272 => ((musterref13_Right.f k l1).bind fun t273 => (musterlaw13_NodesTells.j0 k l1 a2 t242 bt253.1 bt261.1 (t272 != t273)))) else (musterlaw13_NodesTells.j0 k l1 a2 t242 bt253.1 bt261.1 true)) else (musterlaw13_NodesTells.j0 k l1 a2 t242 bt253.1 bt261.1 true))) else (musterlaw13_NodesTells.j0 k l1 a2 t242 bt253.1 bt261.1 true)) else (musterlaw13_NodesTells.j0 k l1 a2 t242 bt253.1 bt261.1 true))) else (musterlaw13_NodesTells.j0 k l1 a2 t242 bt253.1 bt261.1 true)) else (musterlaw13_NodesTells.j0 k l1 a2 t242 bt253.1 bt261.1 true)))))))) = some r := H
  have A5 := Aside0.mk A50
  clear A50
  replace H := Option.bind_eq_some_iff.mp H
  obtain ⟨⟨t249, t250⟩, A60, H⟩ := H
  replace H : ((nodes_Fail.f t242 a2).bind fun bt253 => ((musterref13_Fail.f k l1 a2).bind fun bt257 => ((nodes_Rise.f t242 a2).bind fun bt261 => ((musterref13_Rise.f k l1 a2).bind fun bt265 => ((musterkit_SameNodes.f k t245 t249).bind fun t269 => (if t269 = true then (if t246 = t250 then ((musterkit_SameNodes.f k bt253.1 bt257.1).bind fun t270 => (if t270 = true then (if bt253.2 = bt257.2 then ((musterkit_SameNodes.f k bt261.1 bt265.1).bind fun t271 => (if t271 = true then (if bt261.2 = bt265.2 then ((nodes_Right.f t242).bind fun t272 => ((musterref13_Right.f k l1).bind fun t273 => (musterlaw13_NodesTells.j0 k l1 a2 t242 bt253.1 bt261.1 (t272 != t273)))) else (musterlaw13_NodesTells.j0 k l1 a2 t242 bt253.1 bt261.1 true)) else (musterlaw13_NodesTells.j0 k l1 a2 t242 bt253.1 bt261.1 true))) else (musterlaw13_NodesTells.j0 k l1 a2 t242 bt253.1 bt261.1 true)) else (musterlaw13_NodesTells.j0 k l1 a2 t242 bt253.1 bt261.1 true))) else (musterlaw13_NodesTells.j0 k l1 a2 t242 bt253.1 bt261.1 true)) else (musterlaw13_NodesTells.j0 k l1 a2 t242 bt253.1 bt261.1 true))))))) = some r := H
  have A6 := Aside0.mk A60
  clear A60
  replace H := Option.bind_eq_some_iff.mp H
  obtain ⟨⟨t253, t254⟩, A70, H⟩ := H
  replace H : ((musterref13_Fail.f k l1 a2).bind fun bt257 => ((nodes_Rise.f t242 a2).bind fun bt261 => ((musterref13_Rise.f k l1 a2).bind fun bt265 => ((musterkit_SameNodes.f k t245 t249).bind fun t269 => (if t269 = true then (if t246 = t250 then ((musterkit_SameNodes.f k t253 bt257.1).bind fun t270 => (if t270 = true then (if t254 = bt257.2 then ((musterkit_SameNodes.f k bt261.1 bt265.1).bind fun t271 => (if t271 = true then (if bt261.2 = bt265.2 then ((nodes_Right.f t242).bind fun t272 => ((musterref13_Right.f k l1).bind fun t273 => (musterlaw13_NodesTells.j0 k l1 a2 t242 t253 bt261.1 (t272 != t273)))) else (musterlaw13_NodesTells.j0 k l1 a2 t242 t253 bt261.1 true)) else (musterlaw13_NodesTells.j0 k l1 a2 t242 t253 bt261.1 true))) else (musterlaw13_NodesTells.j0 k l1 a2 t242 t253 bt261.1 true)) else (musterlaw13_NodesTells.j0 k l1 a2 t242 t253 bt261.1 true))) else (musterlaw13_NodesTells.j0 k l1 a2 t242 t253 bt261.1 true)) else (musterlaw13_NodesTells.j0 k l1 a2 t242 t253 bt261.1 true)))))) = some r := H
  have A7 := Aside0.mk A70
  clear A70
  replace H := Option.bind_eq_some_iff.mp H
  obtain ⟨⟨t257, t258⟩, A80, H⟩ := H
  replace H : ((nodes_Rise.f t242 a2).bind fun bt261 => ((musterref13_Rise.f k l1 a2).bind fun bt265 => ((musterkit_SameNodes.f k t245 t249).bind fun t269 => (if t269 = true then (if t246 = t250 then ((musterkit_SameNodes.f k t253 t257).bind fun t270 => (if t270 = true then (if t254 = t258 then ((musterkit_SameNodes.f k bt261.1 bt265.1).bind fun t271 => (if t271 = true then (if bt261.2 = bt265.2 then ((nodes_Right.f t242).bind fun t272 => ((musterref13_Right.f k l1).bind fun t273 => (musterlaw13_NodesTells.j0 k l1 a2 t242 t253 bt261.1 (t272 != t273)))) else (musterlaw13_NodesTells.j0 k l1 a2 t242 t253 bt261.1 true)) else (musterlaw13_NodesTells.j0 k l1 a2 t242 t253 bt261.1 true))) else (musterlaw13_NodesTells.j0 k l1 a2 t242 t253 bt261.1 true)) else (musterlaw13_NodesTells.j0 k l1 a2 t242 t253 bt261.1 true))) else (musterlaw13_NodesTells.j0 k l1 a2 t242 t253 bt261.1 true)) else (musterlaw13_NodesTells.j0 k l1 a2 t242 t253 bt261.1 true))))) = some r := H
  have A8 := Aside0.mk A80
  clear A80
  replace H := Option.bind_eq_some_iff.mp H
  obtain ⟨⟨t261, t262⟩, A90, H⟩ := H
  replace H : ((musterref13_Rise.f k l1 a2).bind fun bt265 => ((musterkit_SameNodes.f k t245 t249).bind fun t269 => (if t269 = true then (if t246 = t250 then ((musterkit_SameNodes.f k t253 t257).bind fun t270 => (if t270 = true then (if t254 = t258 then ((musterkit_SameNodes.f k t261 bt265.1).bind fun t271 => (if t271 = true then (if t262 = bt265.2 then ((nodes_Right.f t242).bind fun t272 => ((musterref13_Right.f k l1).bind fun t273 => (musterlaw13_NodesTells.j0 k l1 a2 t242 t253 t261 (t272 != t273)))) else (musterlaw13_NodesTells.j0 k l1 a2 t242 t253 t261 true)) else (musterlaw13_NodesTells.j0 k l1 a2 t242 t253 t261 true))) else (musterlaw13_NodesTells.j0 k l1 a2 t242 t253 t261 true)) else (musterlaw13_NodesTells.j0 k l1 a2 t242 t253 t261 true))) else (musterlaw13_NodesTells.j0 k l1 a2 t242 t253 t261 true)) else (musterlaw13_NodesTells.j0 k l1 a2 t242 t253 t261 true)))) = some r := H
  have A9 := Aside0.mk A90
  clear A90
  replace H := Option.bind_eq_some_iff.mp H
  obtain ⟨⟨t265, t266⟩, A100, H⟩ := H
  replace H : ((musterkit_SameNodes.f k t245 t249).bind fun t269 => (if t269 = true then (if t246 = t250 then ((musterkit_SameNodes.f k t253 t257).bind fun t270 => (if t270 = true then (if t254 = t258 then ((musterkit_SameNodes.f k t261 t265).bind fun t271 => (if t271 = true then (if t262 = t266 then ((nodes_Right.f t242).bind fun t272 => ((musterref13_Right.f k l1).bind fun t273 => (musterlaw13_NodesTells.j0 k l1 a2 t242 t253 t261 (t272 != t273)))) else (musterlaw13_NodesTells.j0 k l1 a2 t242 t253 t261 true)) else (musterlaw13_NodesTells.j0 k l1 a2 t242 t253 t261 true))) else (musterlaw13_NodesTells.j0 k l1 a2 t242 t253 t261 true)) else (musterlaw13_NodesTells.j0 k l1 a2 t242 t253 t261 true))) else (musterlaw13_NodesTells.j0 k l1 a2 t242 t253 t261 true)) else (musterlaw13_NodesTells.j0 k l1 a2 t242 t253 t261 true))) = some r := H
  have A10 := Aside0.mk A100
  clear A100
  have HC11 := Aside0.mk H
  clear H
  go_enter Try.func7, Try.ntmps7
  go_upto_if 24 with (fail)
  go_cut [1] (fun v1 wc => v1 = .slice A1 l1.length c1 ∧ w = wc)
  case first =>
    have HN : Aside0 (l1.length = (cutTo 200 y1).length) := ⟨by rw [HL.out]⟩
    have p1 := HYc.out
    have p2 := HYl.out
    unfold maxLen at p2
    by_cases hlen : 200 < y1.length
    · have HM : Aside0 (l1.length = 200) := ⟨by rw [HN.out, cutTo_len, if_pos hlen]⟩
      clear HN
      go_wp2
      go_meet
      case rel => exact ⟨by rw [HM.out], rfl⟩
    · have HM : Aside0 (l1.length = y1.length) := ⟨by rw [HN.out, cutTo_len, if_neg hlen]⟩
      clear HN
      go_wp2
      go_meet
      case rel => exact ⟨by rw [HM.out], rfl⟩
  case rest =>
    obtain ⟨rfl, rfl⟩ := hcut
    go_upto_region 10 with (first | ((with_reducible refine gate_callee (f := 33) rfl ?_); refine goesL_ (some 28) rfl rfl Try.func33 (by kernel_rfl) rfl #[.slice A1 l1.length c1] rfl (by (try simp only [List.map_toArray, List.map_cons, List.map_nil]); first | done | rfl | (simp only [List.length_drop, List.length_take]; rfl)) ?_; (with_reducible refine (musterkit_CopyNodes.calls k _ _ l1 t242 _ ?side1 ?side2 A4.out).mono ?_); (case side1 => repeat (first | exact HR1.out | (with_reducible refine Kd.C_alloc ?_ _) | (with_reducible refine Kd.C_drewN ?_ _) | (with_reducible refine Kd.C_drew ?_))); (case side2 => exact HC1.out); rintro e w12 ⟨v243, rfl, ho0, hb⟩; refine ⟨_, rfl, ?_⟩; have n0_ := Aside0.mk (Kd.R_lower ho0 (below_size (by repeat (first | (with_reducible first | exact HB.out | apply below_alloc | apply pw_below_drewN | apply below_drew1) | exact HB.out)))); have n1_ := Aside0.mk (below_step (by repeat (first | (with_reducible first | exact HB.out | apply below_alloc | apply pw_below_drewN | apply below_drew1) | exact HB.out)) hb); clear HB; have HO244 := n0_; have HB := n1_; clear n0_ n1_; (try clear hb); (try clear hb2); (try clear hk); (try clear hi); (try clear ho0)) | ((with_reducible refine gate_callee (f := 28) rfl ?_); refine goesL_ (some 31) rfl rfl Try.func28 (by kernel_rfl) rfl #[.slice A0 l0.length c0] rfl (by (try simp only [List.map_toArray, List.map_cons, List.map_nil]); first | done | rfl | (simp only [List.length_drop, List.length_take]; rfl)) ?_; (with_reducible refine (nodes_New.calls k _ _ l0 t245 t246 _ ?side1 ?side2 A5.out).mono ?_); (case side1 => repeat (first | exact (Kd.C_below HR0.out HB.out) | (with_reducible refine Kd.C_alloc ?_ _) | (with_reducible refine Kd.C_drewN ?_ _) | (with_reducible refine Kd.C_drew ?_))); (case side2 => exact HC0.out); rintro e w13 ⟨v247, rfl, ho0, hb⟩; refine ⟨_, rfl, ?_⟩; have n0_ := Aside0.mk (Kd.R_elder' (by (with_reducible repeat (first | apply Kd.R_alloc | apply Kd.R_drewN | apply Kd.R_drew)); exact HO244.out) (Kd.R_base ho0) hb); have n1_ := Aside0.mk (Kd.R_lower (Kd.R_new' ho0 (Kd.R_lt (by (with_reducible repeat (first | apply Kd.R_alloc | apply Kd.R_drewN | apply Kd.R_drew)); exact HO244.out))) (below_size (by repeat (first | (with_reducible first | exact HB.out | apply below_alloc | apply pw_below_drewN | apply below_drew1) | exact HB.out)))); have n2_ := Aside0.mk (below_step (by repeat (first | (with_reducible first | exact HB.out | apply below_alloc | apply pw_below_drewN | apply below_drew1) | exact HB.out)) hb); clear HO244; clear HB; have HO244 := n0_; have HO248 := n1_; have HB := n2_; clear n0_ n1_ n2_; (try clear hb); (try clear hb2); (try clear hk); (try clear hi); (try clear ho0)) | ((with_reducible refine gate_callee (f := 34) rfl ?_); refine goesL_ (some 36) rfl rfl Try.func34 (by kernel_rfl) rfl #[.slice A0 l0.length c0] rfl (by (try simp only [List.map_toArray, List.map_cons, List.map_nil]); first | done | rfl | (simp only [List.length_drop, List.length_take]; rfl)) ?_; (with_reducible refine (musterref13_New.calls k _ _ l0 t249 t250 _ ?side1 ?side2 A6.out).mono ?_); (case side1 => repeat (first | exact (Kd.C_below HR0.out HB.out) | (with_reducible refine Kd.C_alloc ?_ _) | (with_reducible refine Kd.C_drewN ?_ _) | (with_reducible refine Kd.C_drew ?_))); (case side2 => exact HC0.out); rintro e w14 ⟨v251, rfl, ho0, hb⟩; refine ⟨_, rfl, ?_⟩; have n0_ := Aside0.mk (Kd.R_elder' (by (with_reducible repeat (first | apply Kd.R_alloc | apply Kd.R_drewN | apply Kd.R_drew)); exact HO244.out) (Kd.R_base ho0) hb); have n1_ := Aside0.mk (Kd.R_elder' (by (with_reducible repeat (first | apply Kd.R_alloc | apply Kd.R_drewN | apply Kd.R_drew)); exact HO248.out) (Kd.R_base ho0) hb); have n2_ := Aside0.mk (Kd.R_lower (Kd.R_new' (Kd.R_new' ho0 (Kd.R_lt (by (with_reducible repeat (first | apply Kd.R_alloc | apply Kd.R_drewN | apply Kd.R_drew)); exact HO244.out))) (Kd.R_lt (by (with_reducible repeat (first | apply Kd.R_alloc | apply Kd.R_drewN | apply Kd.R_drew)); exact HO248.out))) (below_size (by repeat (first | (with_reducible first | exact HB.out | apply below_alloc | apply pw_below_drewN | apply below_drew1) | exact HB.out)))); have n3_ := Aside0.mk (below_step (by repeat (first | (with_reducible first | exact HB.out | apply below_alloc | apply pw_below_drewN | apply below_drew1) | exact HB.out)) hb); clear HO244; clear HO248; clear HB; have HO244 := n0_; have HO248 := n1_; have HO252 := n2_; have HB := n3_; clear n0_ n1_ n2_ n3_; (try clear hb); (try clear hb2); (try clear hk); (try clear hi); (try clear ho0); obtain ⟨Ao15, co15, eo15⟩ := Kd.R_slice HO244.out; subst eo15) | ((with_reducible refine gate_callee (f := 31) rfl ?_); refine goesL_ (some 42) rfl rfl Try.func31 (by kernel_rfl) rfl #[.slice Ao15 t242.length co15, .int .i64 a2] rfl (by (try simp only [List.map_toArray, List.map_cons, List.map_nil]); first | done | rfl | (simp only [List.length_drop, List.length_take]; rfl)) ?_; (with_reducible refine (nodes_Fail.calls _ _ t242 a2 t253 t254 _ ?side1 ?side2 A7.out).mono ?_); (case side1 => repeat (first | exact (Kd.R_reads' HO244.out).2.2 | (with_reducible refine Kd.C_alloc ?_ _) | (with_reducible refine Kd.C_drewN ?_ _) | (with_reducible refine Kd.C_drew ?_))); (case side2 => exact (Kd.R_reads' HO244.out).2.1); rintro e w16 ⟨v255, rfl, ho0, hb⟩; refine ⟨_, rfl, ?_⟩; have n0_ := Aside0.mk (Kd.R_elder' (by (with_reducible repeat (first | apply Kd.R_alloc | apply Kd.R_drewN | apply Kd.R_drew)); exact HO244.out) (Kd.R_base ho0) hb); have n1_ := Aside0.mk (Kd.R_elder' (by (with_reducible repeat (first | apply Kd.R_alloc | apply Kd.R_drewN | apply Kd.R_drew)); exact HO248.out) (Kd.R_base ho0) hb); have n2_ := Aside0.mk (Kd.R_elder' (by (with_reducible repeat (first | apply Kd.R_alloc | apply Kd.R_drewN | apply Kd.R_drew)); exact HO252.out) (Kd.R_base ho0) hb); have n3_ := Aside0.mk (Kd.R_lower (Kd.R_new' (Kd.R_new' (Kd.R_new' ho0 (Kd.R_lt (by (with_reducible repeat (first | apply Kd.R_alloc | apply Kd.R_drewN | apply Kd.R_drew)); exact HO244.out))) (Kd.R_lt (by (with_reducible repeat (first | apply Kd.R_alloc | apply Kd.R_drewN | apply Kd.R_drew)); exact HO248.out))) (Kd.R_lt (by (with_reducible repeat (first | apply Kd.R_alloc | apply Kd.R_drewN | apply Kd.R_drew)); exact HO252.out))) (below_size (by repeat (first | (with_reducible first | exact HB.out | apply below_alloc | apply pw_below_drewN | apply below_drew1) | exact HB.out)))); have n4_ := Aside0.mk (below_step (by repeat (first | (with_reducible first | exact HB.out | apply below_alloc | apply pw_below_drewN | apply below_drew1) | exact HB.out)) hb); clear HO244; clear HO248; clear HO252; clear HB; have HO244 := n0_; have HO248 := n1_; have HO252 := n2_; have HO256 := n3_; have HB := n4_; clear n0_ n1_ n2_ n3_ n4_; (try clear hb); (try clear hb2); (try clear hk); (try clear hi); (try clear ho0)) | ((with_reducible refine gate_callee (f := 35) rfl ?_); refine goesL_ (some 48) rfl rfl Try.func35 (by kernel_rfl) rfl #[.slice A1 l1.length c1, .int .i64 a2] rfl (by (try simp only [List.map_toArray, List.map_cons, List.map_nil]); first | done | rfl | (simp only [List.length_drop, List.length_take]; rfl)) ?_; (with_reducible refine (musterref13_Fail.calls k _ _ l1 a2 t257 t258 _ ?side1 ?side2 A8.out).mono ?_); (case side1 => repeat (first | exact (Kd.C_below HR1.out HB.out) | (with_reducible refine Kd.C_alloc ?_ _) | (with_reducible refine Kd.C_drewN ?_ _) | (with_reducible refine Kd.C_drew ?_))); (case side2 => exact HC1.out); rintro e w17 ⟨v259, rfl, ho0, hb⟩; refine ⟨_, rfl, ?_⟩; have n0_ := Aside0.mk (Kd.R_elder' (by (with_reducible repeat (first | apply Kd.R_alloc | apply Kd.R_drewN | apply Kd.R_drew)); exact HO244.out) (Kd.R_base ho0) hb); have n1_ := Aside0.mk (Kd.R_elder' (by (with_reducible repeat (first | apply Kd.R_alloc | apply Kd.R_drewN | apply Kd.R_drew)); exact HO248.out) (Kd.R_base ho0) hb); have n2_ := Aside0.mk (Kd.R_elder' (by (with_reducible repeat (first | apply Kd.R_alloc | apply Kd.R_drewN | apply Kd.R_drew)); exact HO252.out) (Kd.R_base ho0) hb); have n3_ := Aside0.mk (Kd.R_elder' (by (with_reducible repeat (first | apply Kd.R_alloc | apply Kd.R_drewN | apply Kd.R_drew)); exact HO256.out) (Kd.R_base ho0) hb); have n4_ := Aside0.mk (Kd.R_lower (Kd.R_new' (Kd.R_new' (Kd.R_new' (Kd.R_new' ho0 (Kd.R_lt (by (with_reducible repeat (first | apply Kd.R_alloc | apply Kd.R_drewN | apply Kd.R_drew)); exact HO244.out))) (Kd.R_lt (by (with_reducible repeat (first | apply Kd.R_alloc | apply Kd.R_drewN | apply Kd.R_drew)); exact HO248.out))) (Kd.R_lt (by (with_reducible repeat (first | apply Kd.R_alloc | apply Kd.R_drewN | apply Kd.R_drew)); exact HO252.out))) (Kd.R_lt (by (with_reducible repeat (first | apply Kd.R_alloc | apply Kd.R_drewN | apply Kd.R_drew)); exact HO256.out))) (below_size (by repeat (first | (with_reducible first | exact HB.out | apply below_alloc | apply pw_below_drewN | apply below_drew1) | exact HB.out)))); have n5_ := Aside0.mk (below_step (by repeat (first | (with_reducible first | exact HB.out | apply below_alloc | apply pw_below_drewN | apply below_drew1) | exact HB.out)) hb); clear HO244; clear HO248; clear HO252; clear HO256; clear HB; have HO244 := n0_; have HO248 := n1_; have HO252 := n2_; have HO256 := n3_; have HO260 := n4_; have HB := n5_; clear n0_ n1_ n2_ n3_ n4_ n5_; (try clear hb); (try clear hb2); (try clear hk); (try clear hi); (try clear ho0)) | ((with_reducible refine gate_callee (f := 30) rfl ?_); refine goesL_ (some 54) rfl rfl Try.func30 (by kernel_rfl) rfl #[.slice Ao15 t242.length co15, .int .i64 a2] rfl (by (try simp only [List.map_toArray, List.map_cons, List.map_nil]); first | done | rfl | (simp only [List.length_drop, List.length_take]; rfl)) ?_; (with_reducible refine (nodes_Rise.calls _ _ t242 a2 t261 t262 _ ?side1 ?side2 A9.out).mono ?_); (case side1 => repeat (first | exact (Kd.R_reads' HO244.out).2.2 | (with_reducible refine Kd.C_alloc ?_ _) | (with_reducible refine Kd.C_drewN ?_ _) | (with_reducible refine Kd.C_drew ?_))); (case side2 => exact (Kd.R_reads' HO244.out).2.1); rintro e w18 ⟨v263, rfl, ho0, hb⟩; refine ⟨_, rfl, ?_⟩; have n0_ := Aside0.mk (Kd.R_elder' (by (with_reducible repeat (first | apply Kd.R_alloc | apply Kd.R_drewN | apply Kd.R_drew)); exact HO244.out) (Kd.R_base ho0) hb); have n1_ := Aside0.mk (Kd.R_elder' (by (with_reducible repeat (first | apply Kd.R_alloc | apply Kd.R_drewN | apply Kd.R_drew)); exact HO248.out) (Kd.R_base ho0) hb); have n2_ := Aside0.mk (Kd.R_elder' (by (with_reducible repeat (first | apply Kd.R_alloc | apply Kd.R_drewN | apply Kd.R_drew)); exact HO252.out) (Kd.R_base ho0) hb); have n3_ := Aside0.mk (Kd.R_elder' (by (with_reducible repeat (first | apply Kd.R_alloc | apply Kd.R_drewN | apply Kd.R_drew)); exact HO256.out) (Kd.R_base ho0) hb); have n4_ := Aside0.mk (Kd.R_elder' (by (with_reducible repeat (first | apply Kd.R_alloc | apply Kd.R_drewN | apply Kd.R_drew)); exact HO260.out) (Kd.R_base ho0) hb); have n5_ := Aside0.mk (Kd.R_lower (Kd.R_new' (Kd.R_new' (Kd.R_new' (Kd.R_new' (Kd.R_new' ho0 (Kd.R_lt (by (with_reducible repeat (first | apply Kd.R_alloc | apply Kd.R_drewN | apply Kd.R_drew)); exact HO244.out))) (Kd.R_lt (by (with_reducible repeat (first | apply Kd.R_alloc | apply Kd.R_drewN | apply Kd.R_drew)); exact HO248.out))) (Kd.R_lt (by (with_reducible repeat (first | apply Kd.R_alloc | apply Kd.R_drewN | apply Kd.R_drew)); exact HO252.out))) (Kd.R_lt (by (with_reducible repeat (first | apply Kd.R_alloc | apply Kd.R_drewN | apply Kd.R_drew)); exact HO256.out))) (Kd.R_lt (by (with_reducible repeat (first | apply Kd.R_alloc | apply Kd.R_drewN | apply Kd.R_drew)); exact HO260.out))) (below_size (by repeat (first | (with_reducible first | exact HB.out | apply below_alloc | apply pw_below_drewN | apply below_drew1) | exact HB.out)))); have n6_ := Aside0.mk (below_step (by repeat (first | (with_reducible first | exact HB.out | apply below_alloc | apply pw_below_drewN | apply below_drew1) | exact HB.out)) hb); clear HO244; clear HO248; clear HO252; clear HO256; clear HO260; clear HB; have HO244 := n0_; have HO248 := n1_; have HO252 := n2_; have HO256 := n3_; have HO260 := n4_; have HO264 := n5_; have HB := n6_; clear n0_ n1_ n2_ n3_ n4_ n5_ n6_; (try clear hb); (try clear hb2); (try clear hk); (try clear hi); (try clear ho0)) | ((with_reducible refine gate_callee (f := 36) rfl ?_); refine goesL_ (some 60) rfl rfl Try.func36 (by kernel_rfl) rfl #[.slice A1 l1.length c1, .int .i64 a2] rfl (by (try simp only [List.map_toArray, List.map_cons, List.map_nil]); first | done | rfl | (simp only [List.length_drop, List.length_take]; rfl)) ?_; (with_reducible refine (musterref13_Rise.calls k _ _ l1 a2 t265 t266 _ ?side1 ?side2 A10.out).mono ?_); (case side1 => repeat (first | exact (Kd.C_below HR1.out HB.out) | (with_reducible refine Kd.C_alloc ?_ _) | (with_reducible refine Kd.C_drewN ?_ _) | (with_reducible refine Kd.C_drew ?_))); (case side2 => exact HC1.out); rintro e w19 ⟨v267, rfl, ho0, hb⟩; refine ⟨_, rfl, ?_⟩; have n0_ := Aside0.mk (Kd.R_elder' (by (with_reducible repeat (first | apply Kd.R_alloc | apply Kd.R_drewN | apply Kd.R_drew)); exact HO244.out) (Kd.R_base ho0) hb); have n1_ := Aside0.mk (Kd.R_elder' (by (with_reducible repeat (first | apply Kd.R_alloc | apply Kd.R_drewN | apply Kd.R_drew)); exact HO248.out) (Kd.R_base ho0) hb); have n2_ := Aside0.mk (Kd.R_elder' (by (with_reducible repeat (first | apply Kd.R_alloc | apply Kd.R_drewN | apply Kd.R_drew)); exact HO252.out) (Kd.R_base ho0) hb); have n3_ := Aside0.mk (Kd.R_elder' (by (with_reducible repeat (first | apply Kd.R_alloc | apply Kd.R_drewN | apply Kd.R_drew)); exact HO256.out) (Kd.R_base ho0) hb); have n4_ := Aside0.mk (Kd.R_elder' (by (with_reducible repeat (first | apply Kd.R_alloc | apply Kd.R_drewN | apply Kd.R_drew)); exact HO260.out) (Kd.R_base ho0) hb); have n5_ := Aside0.mk (Kd.R_elder' (by (with_reducible repeat (first | apply Kd.R_alloc | apply Kd.R_drewN | apply Kd.R_drew)); exact HO264.out) (Kd.R_base ho0) hb); have n6_ := Aside0.mk (Kd.R_lower (Kd.R_new' (Kd.R_new' (Kd.R_new' (Kd.R_new' (Kd.R_new' (Kd.R_new' ho0 (Kd.R_lt (by (with_reducible repeat (first | apply Kd.R_alloc | apply Kd.R_drewN | apply Kd.R_drew)); exact HO244.out))) (Kd.R_lt (by (with_reducible repeat (first | apply Kd.R_alloc | apply Kd.R_drewN | apply Kd.R_drew)); exact HO248.out))) (Kd.R_lt (by (with_reducible repeat (first | apply Kd.R_alloc | apply Kd.R_drewN | apply Kd.R_drew)); exact HO252.out))) (Kd.R_lt (by (with_reducible repeat (first | apply Kd.R_alloc | apply Kd.R_drewN | apply Kd.R_drew)); exact HO256.out))) (Kd.R_lt (by (with_reducible repeat (first | apply Kd.R_alloc | apply Kd.R_drewN | apply Kd.R_drew)); exact HO260.out))) (Kd.R_lt (by (with_reducible repeat (first | apply Kd.R_alloc | apply Kd.R_drewN | apply Kd.R_drew)); exact HO264.out))) (below_size (by repeat (first | (with_reducible first | exact HB.out | apply below_alloc | apply pw_below_drewN | apply below_drew1) | exact HB.out)))); have n7_ := Aside0.mk (below_step (by repeat (first | (with_reducible first | exact HB.out | apply below_alloc | apply pw_below_drewN | apply below_drew1) | exact HB.out)) hb); clear HO244; clear HO248; clear HO252; clear HO256; clear HO260; clear HO264; clear HB; have HO244 := n0_; have HO248 := n1_; have HO252 := n2_; have HO256 := n3_; have HO260 := n4_; have HO264 := n5_; have HO268 := n6_; have HB := n7_; clear n0_ n1_ n2_ n3_ n4_ n5_ n6_ n7_; (try clear hb); (try clear hb2); (try clear hk); (try clear hi); (try clear ho0)))
    (try simp only [Act.put, List.setIfInBounds_toArray, List.set_cons_zero, List.set_cons_succ])
    go_cut [100] (fun v100 wc => ∃ (kq : Nat) (x100_10 : Bool), v100 = .bool x100_10 ∧ Aside0 (musterlaw13_NodesTells.j0 kq l1 a2 t242 t253 t261 x100_10 = some r) ∧ Aside0 (kq ≤ k) ∧ Aside0 (Kd.R k55 55 wc w.heap.size (fun k_ => some k_ ≠ (v255 : Value).ownBlock ∧ some k_ ≠ (v263 : Value).ownBlock) (.slice Ao15 t242.length co15) t242) ∧ Aside0 (Kd.R k55 55 wc w.heap.size (fun k_ => some k_ ≠ ((.slice Ao15 t242.length co15) : Value).ownBlock ∧ some k_ ≠ (v263 : Value).ownBlock) v255 t253) ∧ Aside0 (Kd.R k55 55 wc w.heap.size (fun k_ => some k_ ≠ ((.slice Ao15 t242.length co15) : Value).ownBlock ∧ some k_ ≠ (v255 : Value).ownBlock) v263 t261) ∧ Aside0 (Below w.heap.size w wc))
    case first =>
      have H := HC11.out
      clear HC11
      replace H := Option.bind_eq_some_iff.mp H
      obtain ⟨t269, A200, H⟩ := H
      replace H : (if t269 = true then (if t246 = t250 then ((musterkit_SameNodes.f k t253 t257).bind fun t270 => (if t270 = true then (if t254 = t258 then ((musterkit_SameNodes.f k t261 t265).bind fun t271 => (if t271 = true then (if t262 = t266 then ((nodes_Right.f t242).bind fun t272 => ((musterref13_Right.f k l1).bind fun t273 => (musterlaw13_NodesTells.j0 k l1 a2 t242 t253 t261 (t272 != t273)))) else (musterlaw13_NodesTells.j0 k l1 a2 t242 t253 t261 true)) else (musterlaw13_NodesTells.j0 k l1 a2 t242 t253 t261 true))) else (musterlaw13_NodesTells.j0 k l1 a2 t242 t253 t261 true)) else (musterlaw13_NodesTells.j0 k l1 a2 t242 t253 t261 true))) else (musterlaw13_NodesTells.j0 k l1 a2 t242 t253 t261 true)) else (musterlaw13_NodesTells.j0 k l1 a2 t242 t253 t261 true)) = some r := H
      have A20 := Aside0.mk A200
      clear A200
      by_cases c21 : t269 = true
      · subst c21
        have H1 : (if t246 = t250 then ((musterkit_SameNodes.f k t253 t257).bind fun t270 => (if t270 = true then (if t254 = t258 then ((musterkit_SameNodes.f k t261 t265).bind fun t271 => (if t271 = true then (if t262 = t266 then ((nodes_Right.f t242).bind fun t272 => ((musterref13_Right.f k l1).bind fun t273 => (musterlaw13_NodesTells.j0 k l1 a2 t242 t253 t261 (t272 != t273)))) else (musterlaw13_NodesTells.j0 k l1 a2 t242 t253 t261 true)) else (musterlaw13_NodesTells.j0 k l1 a2 t242 t253 t261 true))) else (musterlaw13_NodesTells.j0 k l1 a2 t242 t253 t261 true)) else (musterlaw13_NodesTells.j0 k l1 a2 t242 t253 t261 true))) else (musterlaw13_NodesTells.j0 k l1 a2 t242 t253 t261 true)) = some r := by rw [if_pos rfl] at H; exact H
        clear H
        have H := H1
        clear H1
        by_cases c22 : t246 = t250
        · rw [if_pos c22] at H
          have c22b0 : (t246 == t250) = true := beq_iff_eq.mpr c22
          have c22b1 : (t246 != t250) = false := bne_eq_false_iff_eq.mpr c22
          clear c22
          (first | rw [c22b0] | (simp only [i64_w, i32_w]; rw [c22b0]) | skip)
          replace H := Option.bind_eq_some_iff.mp H
          obtain ⟨t270, A230, H⟩ := H
          replace H : (if t270 = true then (if t254 = t258 then ((musterkit_SameNodes.f k t261 t265).bind fun t271 => (if t271 = true then (if t262 = t266 then ((nodes_Right.f t242).bind fun t272 => ((musterref13_Right.f k l1).bind fun t273 => (musterlaw13_NodesTells.j0 k l1 a2 t242 t253 t261 (t272 != t273)))) else (musterlaw13_NodesTells.j0 k l1 a2 t242 t253 t261 true)) else (musterlaw13_NodesTells.j0 k l1 a2 t242 t253 t261 true))) else (musterlaw13_NodesTells.j0 k l1 a2 t242 t253 t261 true)) else (musterlaw13_NodesTells.j0 k l1 a2 t242 t253 t261 true)) = some r := H
          have A23 := Aside0.mk A230
          clear A230
          by_cases c24 : t270 = true
          · subst c24
            have H1 : (if t254 = t258 then ((musterkit_SameNodes.f k t261 t265).bind fun t271 => (if t271 = true then (if t262 = t266 then ((nodes_Right.f t242).bind fun t272 => ((musterref13_Right.f k l1).bind fun t273 => (musterlaw13_NodesTells.j0 k l1 a2 t242 t253 t261 (t272 != t273)))) else (musterlaw13_NodesTells.j0 k l1 a2 t242 t253 t261 true)) else (musterlaw13_NodesTells.j0 k l1 a2 t242 t253 t261 true))) else (musterlaw13_NodesTells.j0 k l1 a2 t242 t253 t261 true)) = some r := by rw [if_pos rfl] at H; exact H
            clear H
            have H := H1
            clear H1
            by_cases c25 : t254 = t258
            · rw [if_pos c25] at H
              have c25b0 : (t254 == t258) = true := beq_iff_eq.mpr c25
              have c25b1 : (t254 != t258) = false := bne_eq_false_iff_eq.mpr c25
              clear c25
              replace H := Option.bind_eq_some_iff.mp H
              obtain ⟨t271, A260, H⟩ := H
              replace H : (if t271 = true then (if t262 = t266 then ((nodes_Right.f t242).bind fun t272 => ((musterref13_Right.f k l1).bind fun t273 => (musterlaw13_NodesTells.j0 k l1 a2 t242 t253 t261 (t272 != t273)))) else (musterlaw13_NodesTells.j0 k l1 a2 t242 t253 t261 true)) else (musterlaw13_NodesTells.j0 k l1 a2 t242 t253 t261 true)) = some r := H
              have A26 := Aside0.mk A260
              clear A260
              by_cases c27 : t271 = true
              · subst c27
                have H1 : (if t262 = t266 then ((nodes_Right.f t242).bind fun t272 => ((musterref13_Right.f k l1).bind fun t273 => (musterlaw13_NodesTells.j0 k l1 a2 t242 t253 t261 (t272 != t273)))) else (musterlaw13_NodesTells.j0 k l1 a2 t242 t253 t261 true)) = some r := by rw [if_pos rfl] at H; exact H
                clear H
                have H := H1
                clear H1
                by_cases c28 : t262 = t266
                · rw [if_pos c28] at H
                  have c28b0 : (t262 == t266) = true := beq_iff_eq.mpr c28
                  have c28b1 : (t262 != t266) = false := bne_eq_false_iff_eq.mpr c28
                  clear c28
                  replace H := Option.bind_eq_some_iff.mp H
                  obtain ⟨t272, A290, H⟩ := H
                  replace H : ((musterref13_Right.f k l1).bind fun t273 => (musterlaw13_NodesTells.j0 k l1 a2 t242 t253 t261 (t272 != t273))) = some r := H
                  have A29 := Aside0.mk A290
                  clear A290
                  replace H := Option.bind_eq_some_iff.mp H
                  obtain ⟨t273, A300, H⟩ := H
                  replace H : (musterlaw13_NodesTells.j0 k l1 a2 t242 t253 t261 (t272 != t273)) = some r := H
                  have A30 := Aside0.mk A300
                  clear A300
                  have H' := Aside0.mk H
                  clear H
                  obtain ⟨Ao31, co31, eo31⟩ := Kd.R_slice HO248.out
                  subst eo31
                  obtain ⟨Ao32, co32, eo32⟩ := Kd.R_slice HO252.out
                  subst eo32
                  go_wp2_with (first | ((with_reducible refine gate_callee (f := 37) rfl ?_); refine goesL_ (some 65) rfl rfl Try.func37 (by kernel_rfl) rfl #[.slice Ao31 t245.length co31, .slice Ao32 t249.length co32] rfl (by (try simp only [List.map_toArray, List.map_cons, List.map_nil]); first | done | rfl | (simp only [List.length_drop, List.length_take]; rfl)) ?_; (with_reducible refine (musterkit_SameNodes.calls k _ _ t245 _ _ t249 true _ ?side1 ?side2 ?side3 ?side4 A20.out).mono ?_); (case side1 => repeat (first | exact (Kd.R_reads' HO248.out).2.2 | (with_reducible refine Kd.C_alloc ?_ _) | (with_reducible refine Kd.C_drewN ?_ _) | (with_reducible refine Kd.C_drew ?_))); (case side2 => exact (Kd.R_reads' HO248.out).2.1); (case side3 => repeat (first | exact (Kd.R_reads' HO252.out).2.2 | (with_reducible refine Kd.C_alloc ?_ _) | (with_reducible refine Kd.C_drewN ?_ _) | (with_reducible refine Kd.C_drew ?_))); (case side4 => exact (Kd.R_reads' HO252.out).2.1); rintro e w' ⟨rfl, ⟨nd, rfl⟩⟩; refine ⟨_, rfl, ?_⟩; obtain ⟨Ao33, co33, eo33⟩ := Kd.R_slice HO256.out; subst eo33; obtain ⟨Ao34, co34, eo34⟩ := Kd.R_slice HO260.out; subst eo34) | (go_at_call 37; (with_reducible refine (musterkit_SameNodes.calls k _ _ t253 _ _ t257 true _ ?side1 ?side2 ?side3 ?side4 A23.out).mono ?_); (case side1 => repeat (first | exact (Kd.R_reads' HO256.out).2.2 | (with_reducible refine Kd.C_alloc ?_ _) | (with_reducible refine Kd.C_drewN ?_ _) | (with_reducible refine Kd.C_drew ?_))); (case side2 => exact (Kd.R_reads' HO256.out).2.1); (case side3 => repeat (first | exact (Kd.R_reads' HO260.out).2.2 | (with_reducible refine Kd.C_alloc ?_ _) | (with_reducible refine Kd.C_drewN ?_ _) | (with_reducible refine Kd.C_drew ?_))); (case side4 => exact (Kd.R_reads' HO260.out).2.1); rintro e w' ⟨rfl, ⟨nd, rfl⟩⟩; obtain ⟨Ao35, co35, eo35⟩ := Kd.R_slice HO264.out; subst eo35; obtain ⟨Ao36, co36, eo36⟩ := Kd.R_slice HO268.out; subst eo36) | (go_at_call 37; (with_reducible refine (musterkit_SameNodes.calls k _ _ t261 _ _ t265 true _ ?side1 ?side2 ?side3 ?side4 A26.out).mono ?_); (case side1 => repeat (first | exact (Kd.R_reads' HO264.out).2.2 | (with_reducible refine Kd.C_alloc ?_ _) | (with_reducible refine Kd.C_drewN ?_ _) | (with_reducible refine Kd.C_drew ?_))); (case side2 => exact (Kd.R_reads' HO264.out).2.1); (case side3 => repeat (first | exact (Kd.R_reads' HO268.out).2.2 | (with_reducible refine Kd.C_alloc ?_ _) | (with_reducible refine Kd.C_drewN ?_ _) | (with_reducible refine Kd.C_drew ?_))); (case side4 => exact (Kd.R_reads' HO268.out).2.1); rintro e w' ⟨rfl, ⟨nd, rfl⟩⟩) | (go_at_call 32; (with_reducible refine (nodes_Right.calls _ _ t242 t272 _ ?side1 ?side2 A29.out).mono ?_); (case side1 => repeat (first | exact (Kd.R_reads' HO244.out).2.2 | (with_reducible refine Kd.C_alloc ?_ _) | (with_reducible refine Kd.C_drewN ?_ _) | (with_reducible refine Kd.C_drew ?_))); (case side2 => exact (Kd.R_reads' HO244.out).2.1); rintro e w37 ⟨rfl, hb⟩; have n0_ := Aside0.mk (Kd.R_below (by (with_reducible repeat (first | apply Kd.R_alloc | apply Kd.R_drewN | apply Kd.R_drew)); exact HO244.out) hb); have n1_ := Aside0.mk (Kd.R_below (by (with_reducible repeat (first | apply Kd.R_alloc | apply Kd.R_drewN | apply Kd.R_drew)); exact HO248.out) hb); have n2_ := Aside0.mk (Kd.R_below (by (with_reducible repeat (first | apply Kd.R_alloc | apply Kd.R_drewN | apply Kd.R_drew)); exact HO252.out) hb); have n3_ := Aside0.mk (Kd.R_below (by (with_reducible repeat (first | apply Kd.R_alloc | apply Kd.R_drewN | apply Kd.R_drew)); exact HO256.out) hb); have n4_ := Aside0.mk (Kd.R_below (by (with_reducible repeat (first | apply Kd.R_alloc | apply Kd.R_drewN | apply Kd.R_drew)); exact HO260.out) hb); have n5_ := Aside0.mk (Kd.R_below (by (with_reducible repeat (first | apply Kd.R_alloc | apply Kd.R_drewN | apply Kd.R_drew)); exact HO264.out) hb); have n6_ := Aside0.mk (Kd.R_below (by (with_reducible repeat (first | apply Kd.R_alloc | apply Kd.R_drewN | apply Kd.R_drew)); exact HO268.out) hb); have n7_ := Aside0.mk (below_step (by repeat (first | (with_reducible first | exact HB.out | apply below_alloc | apply pw_below_drewN | apply below_drew1) | exact HB.out)) hb); clear HO244; clear HO248; clear HO252; clear HO256; clear HO260; clear HO264; clear HO268; clear HB; have HO244 := n0_; have HO248 := n1_; have HO252 := n2_; have HO256 := n3_; have HO260 := n4_; have HO264 := n5_; have HO268 := n6_; have HB := n7_; clear n0_ n1_ n2_ n3_ n4_ n5_ n6_ n7_; (try clear hb); (try clear hb2); (try clear hk); (try clear hi)) | (go_at_call 38; (with_reducible refine (musterref13_Right.calls k _ _ l1 t273 _ ?side1 ?side2 A30.out).mono ?_); (case side1 => repeat (first | exact (Kd.C_below HR1.out HB.out) | (with_reducible refine Kd.C_alloc ?_ _) | (with_reducible refine Kd.C_drewN ?_ _) | (with_reducible refine Kd.C_drew ?_))); (case side2 => exact HC1.out); rintro e w' ⟨rfl, ⟨nd, rfl⟩⟩))
                  go_meet
                  case rel => exact ⟨_, ((t272 != t273)), (by first | rfl | (simp; done) | (simp [*]; done)), H', ⟨by first | omega | exact Nat.le_refl _⟩, ⟨by (with_reducible repeat (first | apply Kd.R_alloc | apply Kd.R_drewN | apply Kd.R_drew)); exact Kd.R_mono HO244.out (fun _ hk => ⟨hk.1.1.1.2, hk.1.2⟩)⟩, ⟨by (with_reducible repeat (first | apply Kd.R_alloc | apply Kd.R_drewN | apply Kd.R_drew)); exact Kd.R_mono HO256.out (fun _ hk => ⟨hk.1.1.1.1.1.2, hk.1.2⟩)⟩, ⟨by (with_reducible repeat (first | apply Kd.R_alloc | apply Kd.R_drewN | apply Kd.R_drew)); exact Kd.R_mono HO264.out (fun _ hk => ⟨hk.1.1.1.1.1.2, hk.1.1.2⟩)⟩, ⟨by repeat (first | (with_reducible first | exact HB.out | apply below_alloc | apply pw_below_drewN | apply below_drew1) | exact HB.out)⟩⟩
                · rw [if_neg c28] at H
                  have c28b0 : (t262 == t266) = false := beq_eq_false_iff_ne.mpr c28
                  have c28b1 : (t262 != t266) = true := bne_iff_ne.mpr c28
                  have H' := Aside0.mk H
                  clear H
                  obtain ⟨Ao38, co38, eo38⟩ := Kd.R_slice HO248.out
                  subst eo38
                  obtain ⟨Ao39, co39, eo39⟩ := Kd.R_slice HO252.out
                  subst eo39
                  go_wp2_with (first | ((with_reducible refine gate_callee (f := 37) rfl ?_); refine goesL_ (some 65) rfl rfl Try.func37 (by kernel_rfl) rfl #[.slice Ao38 t245.length co38, .slice Ao39 t249.length co39] rfl (by (try simp only [List.map_toArray, List.map_cons, List.map_nil]); first | done | rfl | (simp only [List.length_drop, List.length_take]; rfl)) ?_; (with_reducible refine (musterkit_SameNodes.calls k _ _ t245 _ _ t249 true _ ?side1 ?side2 ?side3 ?side4 A20.out).mono ?_); (case side1 => repeat (first | exact (Kd.R_reads' HO248.out).2.2 | (with_reducible refine Kd.C_alloc ?_ _) | (with_reducible refine Kd.C_drewN ?_ _) | (with_reducible refine Kd.C_drew ?_))); (case side2 => exact (Kd.R_reads' HO248.out).2.1); (case side3 => repeat (first | exact (Kd.R_reads' HO252.out).2.2 | (with_reducible refine Kd.C_alloc ?_ _) | (with_reducible refine Kd.C_drewN ?_ _) | (with_reducible refine Kd.C_drew ?_))); (case side4 => exact (Kd.R_reads' HO252.out).2.1); rintro e w' ⟨rfl, ⟨nd, rfl⟩⟩; refine ⟨_, rfl, ?_⟩; obtain ⟨Ao40, co40, eo40⟩ := Kd.R_slice HO256.out; subst eo40; obtain ⟨Ao41, co41, eo41⟩ := Kd.R_slice HO260.out; subst eo41) | (go_at_call 37; (with_reducible refine (musterkit_SameNodes.calls k _ _ t253 _ _ t257 true _ ?side1 ?side2 ?side3 ?side4 A23.out).mono ?_); (case side1 => repeat (first | exact (Kd.R_reads' HO256.out).2.2 | (with_reducible refine Kd.C_alloc ?_ _) | (with_reducible refine Kd.C_drewN ?_ _) | (with_reducible refine Kd.C_drew ?_))); (case side2 => exact (Kd.R_reads' HO256.out).2.1); (case side3 => repeat (first | exact (Kd.R_reads' HO260.out).2.2 | (with_reducible refine Kd.C_alloc ?_ _) | (with_reducible refine Kd.C_drewN ?_ _) | (with_reducible refine Kd.C_drew ?_))); (case side4 => exact (Kd.R_reads' HO260.out).2.1); rintro e w' ⟨rfl, ⟨nd, rfl⟩⟩; obtain ⟨Ao42, co42, eo42⟩ := Kd.R_slice HO264.out; subst eo42; obtain ⟨Ao43, co43, eo43⟩ := Kd.R_slice HO268.out; subst eo43) | (go_at_call 37; (with_reducible refine (musterkit_SameNodes.calls k _ _ t261 _ _ t265 true _ ?side1 ?side2 ?side3 ?side4 A26.out).mono ?_); (case side1 => repeat (first | exact (Kd.R_reads' HO264.out).2.2 | (with_reducible refine Kd.C_alloc ?_ _) | (with_reducible refine Kd.C_drewN ?_ _) | (with_reducible refine Kd.C_drew ?_))); (case side2 => exact (Kd.R_reads' HO264.out).2.1); (case side3 => repeat (first | exact (Kd.R_reads' HO268.out).2.2 | (with_reducible refine Kd.C_alloc ?_ _) | (with_reducible refine Kd.C_drewN ?_ _) | (with_reducible refine Kd.C_drew ?_))); (case side4 => exact (Kd.R_reads' HO268.out).2.1); rintro e w' ⟨rfl, ⟨nd, rfl⟩⟩))
                  go_meet
                  case rel => exact ⟨_, (true), (by first | rfl | (simp; done) | (simp [*]; done)), H', ⟨by first | omega | exact Nat.le_refl _⟩, ⟨by (with_reducible repeat (first | apply Kd.R_alloc | apply Kd.R_drewN | apply Kd.R_drew)); exact Kd.R_mono HO244.out (fun _ hk => ⟨hk.1.1.1.2, hk.1.2⟩)⟩, ⟨by (with_reducible repeat (first | apply Kd.R_alloc | apply Kd.R_drewN | apply Kd.R_drew)); exact Kd.R_mono HO256.out (fun _ hk => ⟨hk.1.1.1.1.1.2, hk.1.2⟩)⟩, ⟨by (with_reducible repeat (first | apply Kd.R_alloc | apply Kd.R_drewN | apply Kd.R_drew)); exact Kd.R_mono HO264.out (fun _ hk => ⟨hk.1.1.1.1.1.2, hk.1.1.2⟩)⟩, ⟨by repeat (first | (with_reducible first | exact HB.out | apply below_alloc | apply pw_below_drewN | apply below_drew1) | exact HB.out)⟩⟩
              · replace c27 := Bool.eq_false_iff.mpr c27
                subst c27
                have H1 : (musterlaw13_NodesTells.j0 k l1 a2 t242 t253 t261 true) = some r := by rw [if_neg (show ¬ (false = true) by decide)] at H; exact H
                clear H
                have H := H1
                clear H1
                have H' := Aside0.mk H
                clear H
                obtain ⟨Ao44, co44, eo44⟩ := Kd.R_slice HO248.out
                subst eo44
                obtain ⟨Ao45, co45, eo45⟩ := Kd.R_slice HO252.out
                subst eo45
                go_wp2_with (first | ((with_reducible refine gate_callee (f := 37) rfl ?_); refine goesL_ (some 65) rfl rfl Try.func37 (by kernel_rfl) rfl #[.slice Ao44 t245.length co44, .slice Ao45 t249.length co45] rfl (by (try simp only [List.map_toArray, List.map_cons, List.map_nil]); first | done | rfl | (simp only [List.length_drop, List.length_take]; rfl)) ?_; (with_reducible refine (musterkit_SameNodes.calls k _ _ t245 _ _ t249 true _ ?side1 ?side2 ?side3 ?side4 A20.out).mono ?_); (case side1 => repeat (first | exact (Kd.R_reads' HO248.out).2.2 | (with_reducible refine Kd.C_alloc ?_ _) | (with_reducible refine Kd.C_drewN ?_ _) | (with_reducible refine Kd.C_drew ?_))); (case side2 => exact (Kd.R_reads' HO248.out).2.1); (case side3 => repeat (first | exact (Kd.R_reads' HO252.out).2.2 | (with_reducible refine Kd.C_alloc ?_ _) | (with_reducible refine Kd.C_drewN ?_ _) | (with_reducible refine Kd.C_drew ?_))); (case side4 => exact (Kd.R_reads' HO252.out).2.1); rintro e w' ⟨rfl, ⟨nd, rfl⟩⟩; refine ⟨_, rfl, ?_⟩; obtain ⟨Ao46, co46, eo46⟩ := Kd.R_slice HO256.out; subst eo46; obtain ⟨Ao47, co47, eo47⟩ := Kd.R_slice HO260.out; subst eo47) | (go_at_call 37; (with_reducible refine (musterkit_SameNodes.calls k _ _ t253 _ _ t257 true _ ?side1 ?side2 ?side3 ?side4 A23.out).mono ?_); (case side1 => repeat (first | exact (Kd.R_reads' HO256.out).2.2 | (with_reducible refine Kd.C_alloc ?_ _) | (with_reducible refine Kd.C_drewN ?_ _) | (with_reducible refine Kd.C_drew ?_))); (case side2 => exact (Kd.R_reads' HO256.out).2.1); (case side3 => repeat (first | exact (Kd.R_reads' HO260.out).2.2 | (with_reducible refine Kd.C_alloc ?_ _) | (with_reducible refine Kd.C_drewN ?_ _) | (with_reducible refine Kd.C_drew ?_))); (case side4 => exact (Kd.R_reads' HO260.out).2.1); rintro e w' ⟨rfl, ⟨nd, rfl⟩⟩; obtain ⟨Ao48, co48, eo48⟩ := Kd.R_slice HO264.out; subst eo48; obtain ⟨Ao49, co49, eo49⟩ := Kd.R_slice HO268.out; subst eo49) | (go_at_call 37; (with_reducible refine (musterkit_SameNodes.calls k _ _ t261 _ _ t265 false _ ?side1 ?side2 ?side3 ?side4 A26.out).mono ?_); (case side1 => repeat (first | exact (Kd.R_reads' HO264.out).2.2 | (with_reducible refine Kd.C_alloc ?_ _) | (with_reducible refine Kd.C_drewN ?_ _) | (with_reducible refine Kd.C_drew ?_))); (case side2 => exact (Kd.R_reads' HO264.out).2.1); (case side3 => repeat (first | exact (Kd.R_reads' HO268.out).2.2 | (with_reducible refine Kd.C_alloc ?_ _) | (with_reducible refine Kd.C_drewN ?_ _) | (with_reducible refine Kd.C_drew ?_))); (case side4 => exact (Kd.R_reads' HO268.out).2.1); rintro e w' ⟨rfl, ⟨nd, rfl⟩⟩))
                go_meet
                case rel => exact ⟨_, (true), (by first | rfl | (simp; done) | (simp [*]; done)), H', ⟨by first | omega | exact Nat.le_refl _⟩, ⟨by (with_reducible repeat (first | apply Kd.R_alloc | apply Kd.R_drewN | apply Kd.R_drew)); exact Kd.R_mono HO244.out (fun _ hk => ⟨hk.1.1.1.2, hk.1.2⟩)⟩, ⟨by (with_reducible repeat (first | apply Kd.R_alloc | apply Kd.R_drewN | apply Kd.R_drew)); exact Kd.R_mono HO256.out (fun _ hk => ⟨hk.1.1.1.1.1.2, hk.1.2⟩)⟩, ⟨by (with_reducible repeat (first | apply Kd.R_alloc | apply Kd.R_drewN | apply Kd.R_drew)); exact Kd.R_mono HO264.out (fun _ hk => ⟨hk.1.1.1.1.1.2, hk.1.1.2⟩)⟩, ⟨by repeat (first | (with_reducible first | exact HB.out | apply below_alloc | apply pw_below_drewN | apply below_drew1) | exact HB.out)⟩⟩
            · rw [if_neg c25] at H
              have c25b0 : (t254 == t258) = false := beq_eq_false_iff_ne.mpr c25
              have c25b1 : (t254 != t258) = true := bne_iff_ne.mpr c25
              have H' := Aside0.mk H
              clear H
              obtain ⟨Ao50, co50, eo50⟩ := Kd.R_slice HO248.out
              subst eo50
              obtain ⟨Ao51, co51, eo51⟩ := Kd.R_slice HO252.out
              subst eo51
              go_wp2_with (first | ((with_reducible refine gate_callee (f := 37) rfl ?_); refine goesL_ (some 65) rfl rfl Try.func37 (by kernel_rfl) rfl #[.slice Ao50 t245.length co50, .slice Ao51 t249.length co51] rfl (by (try simp only [List.map_toArray, List.map_cons, List.map_nil]); first | done | rfl | (simp only [List.length_drop, List.length_take]; rfl)) ?_; (with_reducible refine (musterkit_SameNodes.calls k _ _ t245 _ _ t249 true _ ?side1 ?side2 ?side3 ?side4 A20.out).mono ?_); (case side1 => repeat (first | exact (Kd.R_reads' HO248.out).2.2 | (with_reducible refine Kd.C_alloc ?_ _) | (with_reducible refine Kd.C_drewN ?_ _) | (with_reducible refine Kd.C_drew ?_))); (case side2 => exact (Kd.R_reads' HO248.out).2.1); (case side3 => repeat (first | exact (Kd.R_reads' HO252.out).2.2 | (with_reducible refine Kd.C_alloc ?_ _) | (with_reducible refine Kd.C_drewN ?_ _) | (with_reducible refine Kd.C_drew ?_))); (case side4 => exact (Kd.R_reads' HO252.out).2.1); rintro e w' ⟨rfl, ⟨nd, rfl⟩⟩; refine ⟨_, rfl, ?_⟩; obtain ⟨Ao52, co52, eo52⟩ := Kd.R_slice HO256.out; subst eo52; obtain ⟨Ao53, co53, eo53⟩ := Kd.R_slice HO260.out; subst eo53) | (go_at_call 37; (with_reducible refine (musterkit_SameNodes.calls k _ _ t253 _ _ t257 true _ ?side1 ?side2 ?side3 ?side4 A23.out).mono ?_); (case side1 => repeat (first | exact (Kd.R_reads' HO256.out).2.2 | (with_reducible refine Kd.C_alloc ?_ _) | (with_reducible refine Kd.C_drewN ?_ _) | (with_reducible refine Kd.C_drew ?_))); (case side2 => exact (Kd.R_reads' HO256.out).2.1); (case side3 => repeat (first | exact (Kd.R_reads' HO260.out).2.2 | (with_reducible refine Kd.C_alloc ?_ _) | (with_reducible refine Kd.C_drewN ?_ _) | (with_reducible refine Kd.C_drew ?_))); (case side4 => exact (Kd.R_reads' HO260.out).2.1); rintro e w' ⟨rfl, ⟨nd, rfl⟩⟩))
              go_meet
              case rel => exact ⟨_, (true), (by first | rfl | (simp; done) | (simp [*]; done)), H', ⟨by first | omega | exact Nat.le_refl _⟩, ⟨by (with_reducible repeat (first | apply Kd.R_alloc | apply Kd.R_drewN | apply Kd.R_drew)); exact Kd.R_mono HO244.out (fun _ hk => ⟨hk.1.1.1.2, hk.1.2⟩)⟩, ⟨by (with_reducible repeat (first | apply Kd.R_alloc | apply Kd.R_drewN | apply Kd.R_drew)); exact Kd.R_mono HO256.out (fun _ hk => ⟨hk.1.1.1.1.1.2, hk.1.2⟩)⟩, ⟨by (with_reducible repeat (first | apply Kd.R_alloc | apply Kd.R_drewN | apply Kd.R_drew)); exact Kd.R_mono HO264.out (fun _ hk => ⟨hk.1.1.1.1.1.2, hk.1.1.2⟩)⟩, ⟨by repeat (first | (with_reducible first | exact HB.out | apply below_alloc | apply pw_below_drewN | apply below_drew1) | exact HB.out)⟩⟩
          · replace c24 := Bool.eq_false_iff.mpr c24
            subst c24
            have H1 : (musterlaw13_NodesTells.j0 k l1 a2 t242 t253 t261 true) = some r := by rw [if_neg (show ¬ (false = true) by decide)] at H; exact H
            clear H
            have H := H1
            clear H1
            have H' := Aside0.mk H
            clear H
            obtain ⟨Ao54, co54, eo54⟩ := Kd.R_slice HO248.out
            subst eo54
            obtain ⟨Ao55, co55, eo55⟩ := Kd.R_slice HO252.out
            subst eo55
            go_wp2_with (first | ((with_reducible refine gate_callee (f := 37) rfl ?_); refine goesL_ (some 65) rfl rfl Try.func37 (by kernel_rfl) rfl #[.slice Ao54 t245.length co54, .slice Ao55 t249.length co55] rfl (by (try simp only [List.map_toArray, List.map_cons, List.map_nil]); first | done | rfl | (simp only [List.length_drop, List.length_take]; rfl)) ?_; (with_reducible refine (musterkit_SameNodes.calls k _ _ t245 _ _ t249 true _ ?side1 ?side2 ?side3 ?side4 A20.out).mono ?_); (case side1 => repeat (first | exact (Kd.R_reads' HO248.out).2.2 | (with_reducible refine Kd.C_alloc ?_ _) | (with_reducible refine Kd.C_drewN ?_ _) | (with_reducible refine Kd.C_drew ?_))); (case side2 => exact (Kd.R_reads' HO248.out).2.1); (case side3 => repeat (first | exact (Kd.R_reads' HO252.out).2.2 | (with_reducible refine Kd.C_alloc ?_ _) | (with_reducible refine Kd.C_drewN ?_ _) | (with_reducible refine Kd.C_drew ?_))); (case side4 => exact (Kd.R_reads' HO252.out).2.1); rintro e w' ⟨rfl, ⟨nd, rfl⟩⟩; refine ⟨_, rfl, ?_⟩; obtain ⟨Ao56, co56, eo56⟩ := Kd.R_slice HO256.out; subst eo56; obtain ⟨Ao57, co57, eo57⟩ := Kd.R_slice HO260.out; subst eo57) | (go_at_call 37; (with_reducible refine (musterkit_SameNodes.calls k _ _ t253 _ _ t257 false _ ?side1 ?side2 ?side3 ?side4 A23.out).mono ?_); (case side1 => repeat (first | exact (Kd.R_reads' HO256.out).2.2 | (with_reducible refine Kd.C_alloc ?_ _) | (with_reducible refine Kd.C_drewN ?_ _) | (with_reducible refine Kd.C_drew ?_))); (case side2 => exact (Kd.R_reads' HO256.out).2.1); (case side3 => repeat (first | exact (Kd.R_reads' HO260.out).2.2 | (with_reducible refine Kd.C_alloc ?_ _) | (with_reducible refine Kd.C_drewN ?_ _) | (with_reducible refine Kd.C_drew ?_))); (case side4 => exact (Kd.R_reads' HO260.out).2.1); rintro e w' ⟨rfl, ⟨nd, rfl⟩⟩))
            go_meet
            case rel => exact ⟨_, (true), (by first | rfl | (simp; done) | (simp [*]; done)), H', ⟨by first | omega | exact Nat.le_refl _⟩, ⟨by (with_reducible repeat (first | apply Kd.R_alloc | apply Kd.R_drewN | apply Kd.R_drew)); exact Kd.R_mono HO244.out (fun _ hk => ⟨hk.1.1.1.2, hk.1.2⟩)⟩, ⟨by (with_reducible repeat (first | apply Kd.R_alloc | apply Kd.R_drewN | apply Kd.R_drew)); exact Kd.R_mono HO256.out (fun _ hk => ⟨hk.1.1.1.1.1.2, hk.1.2⟩)⟩, ⟨by (with_reducible repeat (first | apply Kd.R_alloc | apply Kd.R_drewN | apply Kd.R_drew)); exact Kd.R_mono HO264.out (fun _ hk => ⟨hk.1.1.1.1.1.2, hk.1.1.2⟩)⟩, ⟨by repeat (first | (with_reducible first | exact HB.out | apply below_alloc | apply pw_below_drewN | apply below_drew1) | exact HB.out)⟩⟩
        · rw [if_neg c22] at H
          have c22b0 : (t246 == t250) = false := beq_eq_false_iff_ne.mpr c22
          have c22b1 : (t246 != t250) = true := bne_iff_ne.mpr c22
          (first | rw [c22b0] | (simp only [i64_w, i32_w]; rw [c22b0]) | skip)
          have H' := Aside0.mk H
          clear H
          obtain ⟨Ao58, co58, eo58⟩ := Kd.R_slice HO248.out
          subst eo58
          obtain ⟨Ao59, co59, eo59⟩ := Kd.R_slice HO252.out
          subst eo59
          go_wp2_with (first | ((with_reducible refine gate_callee (f := 37) rfl ?_); refine goesL_ (some 65) rfl rfl Try.func37 (by kernel_rfl) rfl #[.slice Ao58 t245.length co58, .slice Ao59 t249.length co59] rfl (by (try simp only [List.map_toArray, List.map_cons, List.map_nil]); first | done | rfl | (simp only [List.length_drop, List.length_take]; rfl)) ?_; (with_reducible refine (musterkit_SameNodes.calls k _ _ t245 _ _ t249 true _ ?side1 ?side2 ?side3 ?side4 A20.out).mono ?_); (case side1 => repeat (first | exact (Kd.R_reads' HO248.out).2.2 | (with_reducible refine Kd.C_alloc ?_ _) | (with_reducible refine Kd.C_drewN ?_ _) | (with_reducible refine Kd.C_drew ?_))); (case side2 => exact (Kd.R_reads' HO248.out).2.1); (case side3 => repeat (first | exact (Kd.R_reads' HO252.out).2.2 | (with_reducible refine Kd.C_alloc ?_ _) | (with_reducible refine Kd.C_drewN ?_ _) | (with_reducible refine Kd.C_drew ?_))); (case side4 => exact (Kd.R_reads' HO252.out).2.1); rintro e w' ⟨rfl, ⟨nd, rfl⟩⟩; refine ⟨_, rfl, ?_⟩))
          go_meet
          case rel => exact ⟨_, (true), (by first | rfl | (simp; done) | (simp [*]; done)), H', ⟨by first | omega | exact Nat.le_refl _⟩, ⟨by (with_reducible repeat (first | apply Kd.R_alloc | apply Kd.R_drewN | apply Kd.R_drew)); exact Kd.R_mono HO244.out (fun _ hk => ⟨hk.1.1.1.2, hk.1.2⟩)⟩, ⟨by (with_reducible repeat (first | apply Kd.R_alloc | apply Kd.R_drewN | apply Kd.R_drew)); exact Kd.R_mono HO256.out (fun _ hk => ⟨hk.1.1.1.1.1.2, hk.1.2⟩)⟩, ⟨by (with_reducible repeat (first | apply Kd.R_alloc | apply Kd.R_drewN | apply Kd.R_drew)); exact Kd.R_mono HO264.out (fun _ hk => ⟨hk.1.1.1.1.1.2, hk.1.1.2⟩)⟩, ⟨by repeat (first | (with_reducible first | exact HB.out | apply below_alloc | apply pw_below_drewN | apply below_drew1) | exact HB.out)⟩⟩
      · replace c21 := Bool.eq_false_iff.mpr c21
        subst c21
        have H1 : (musterlaw13_NodesTells.j0 k l1 a2 t242 t253 t261 true) = some r := by rw [if_neg (show ¬ (false = true) by decide)] at H; exact H
        clear H
        have H := H1
        clear H1
        have H' := Aside0.mk H
        clear H
        obtain ⟨Ao60, co60, eo60⟩ := Kd.R_slice HO248.out
        subst eo60
        obtain ⟨Ao61, co61, eo61⟩ := Kd.R_slice HO252.out
        subst eo61
        go_wp2_with (first | ((with_reducible refine gate_callee (f := 37) rfl ?_); refine goesL_ (some 65) rfl rfl Try.func37 (by kernel_rfl) rfl #[.slice Ao60 t245.length co60, .slice Ao61 t249.length co61] rfl (by (try simp only [List.map_toArray, List.map_cons, List.map_nil]); first | done | rfl | (simp only [List.length_drop, List.length_take]; rfl)) ?_; (with_reducible refine (musterkit_SameNodes.calls k _ _ t245 _ _ t249 false _ ?side1 ?side2 ?side3 ?side4 A20.out).mono ?_); (case side1 => repeat (first | exact (Kd.R_reads' HO248.out).2.2 | (with_reducible refine Kd.C_alloc ?_ _) | (with_reducible refine Kd.C_drewN ?_ _) | (with_reducible refine Kd.C_drew ?_))); (case side2 => exact (Kd.R_reads' HO248.out).2.1); (case side3 => repeat (first | exact (Kd.R_reads' HO252.out).2.2 | (with_reducible refine Kd.C_alloc ?_ _) | (with_reducible refine Kd.C_drewN ?_ _) | (with_reducible refine Kd.C_drew ?_))); (case side4 => exact (Kd.R_reads' HO252.out).2.1); rintro e w' ⟨rfl, ⟨nd, rfl⟩⟩; refine ⟨_, rfl, ?_⟩))
        go_meet
        case rel => exact ⟨_, (true), (by first | rfl | (simp; done) | (simp [*]; done)), H', ⟨by first | omega | exact Nat.le_refl _⟩, ⟨by (with_reducible repeat (first | apply Kd.R_alloc | apply Kd.R_drewN | apply Kd.R_drew)); exact Kd.R_mono HO244.out (fun _ hk => ⟨hk.1.1.1.2, hk.1.2⟩)⟩, ⟨by (with_reducible repeat (first | apply Kd.R_alloc | apply Kd.R_drewN | apply Kd.R_drew)); exact Kd.R_mono HO256.out (fun _ hk => ⟨hk.1.1.1.1.1.2, hk.1.2⟩)⟩, ⟨by (with_reducible repeat (first | apply Kd.R_alloc | apply Kd.R_drewN | apply Kd.R_drew)); exact Kd.R_mono HO264.out (fun _ hk => ⟨hk.1.1.1.1.1.2, hk.1.1.2⟩)⟩, ⟨by repeat (first | (with_reducible first | exact HB.out | apply below_alloc | apply pw_below_drewN | apply below_drew1) | exact HB.out)⟩⟩
    case rest =>
      clear HC11
      try clear c1
      try clear c2
      try clear p2
      try clear c3
      try clear c7
      try clear c21
      try clear c22
      try clear c22b0
      try clear c22b1
      try clear c24
      try clear c25
      try clear c25b0
      try clear c25b1
      try clear c27
      try clear c28
      try clear c28b0
      try clear c28b1
      try clear c30
      try clear c31
      try clear c33
      try clear c34
      try clear c35
      try clear c36
      try clear c37
      obtain ⟨kq, x100_10, rfl, HA, HJ10, HO_7, HO_12, HO_16, HB⟩ := hcut
      cases kq with
      | zero => exact absurd HA.out (by simp [musterlaw13_NodesTells.j0])
      | succ kj10 =>
        have H := HA.out
        clear HA
        simp only [musterlaw13_NodesTells.j0] at H
        by_cases c62 : x100_10 = true
        · subst c62
          have H1 : (some false) = some r := by rw [if_pos rfl] at H; exact H
          clear H
          have H := H1
          clear H1
          obtain rfl := Option.some.inj H
          go_wp2
          go_ret
          exact ⟨by first | rfl | (simp [errW_none, errW_some] <;> rfl) | (simp [*, errW_none, errW_some] <;> rfl), by repeat (first | (with_reducible first | exact HB.out | apply below_alloc | apply pw_below_drewN | apply below_drew1) | exact HB.out)⟩
        · replace c62 := Bool.eq_false_iff.mpr c62
          subst c62
          have H1 : ((nodes_Up.f t242).bind fun t274 => ((musterref13_Up.f kj10 l1).bind fun t275 => (if t274 = t275 then ((nodes_Cores.f kj10 t242).bind fun t276 => ((musterref13_Cores.f kj10 l1).bind fun t279 => ((musterkit_SameInts.f kj10 t276 t279).bind fun t282 => (if t282 = true then ((nodes_Able.f t242 ((a2) % 4294967296) (Int.tmod a2 70)).bind fun t283 => ((musterref13_Able.f kj10 l1 ((a2) % 4294967296) (Int.tmod a2 70)).bind fun t284 => (musterlaw13_NodesTells.j1 kj10 l1 t242 t253 t261 (t283 != t284)))) else (musterlaw13_NodesTells.j1 kj10 l1 t242 t253 t261 true))))) else (musterlaw13_NodesTells.j1 kj10 l1 t242 t253 t261 true)))) = some r := by rw [if_neg (show ¬ (false = true) by decide)] at H; exact H
          clear H
          have H := H1
          clear H1
          have HC63 := Aside0.mk H
          clear H
          go_upto_region 12 with (fail)
          go_cut [128] (fun v128 wc => ∃ (kq : Nat) (x128_62 : Bool), v128 = .bool x128_62 ∧ Aside0 (musterlaw13_NodesTells.j1 kq l1 t242 t253 t261 x128_62 = some r) ∧ Aside0 (kq ≤ kj10) ∧ Aside0 (Kd.R k55 55 wc w.heap.size (fun k_ => some k_ ≠ (v255 : Value).ownBlock ∧ some k_ ≠ (v263 : Value).ownBlock) (.slice Ao15 t242.length co15) t242) ∧ Aside0 (Kd.R k55 55 wc w.heap.size (fun k_ => some k_ ≠ ((.slice Ao15 t242.length co15) : Value).ownBlock ∧ some k_ ≠ (v263 : Value).ownBlock) v255 t253) ∧ Aside0 (Kd.R k55 55 wc w.heap.size (fun k_ => some k_ ≠ ((.slice Ao15 t242.length co15) : Value).ownBlock ∧ some k_ ≠ (v255 : Value).ownBlock) v263 t261) ∧ Aside0 (Below w.heap.size w wc))
          case first =>
            have H := HC63.out
            clear HC63
            replace H := Option.bind_eq_some_iff.mp H
            obtain ⟨t274, A640, H⟩ := H
            replace H : ((musterref13_Up.f kj10 l1).bind fun t275 => (if t274 = t275 then ((nodes_Cores.f kj10 t242).bind fun t276 => ((musterref13_Cores.f kj10 l1).bind fun t279 => ((musterkit_SameInts.f kj10 t276 t279).bind fun t282 => (if t282 = true then ((nodes_Able.f t242 ((a2) % 4294967296) (Int.tmod a2 70)).bind fun t283 => ((musterref13_Able.f kj10 l1 ((a2) % 4294967296) (Int.tmod a2 70)).bind fun t284 => (musterlaw13_NodesTells.j1 kj10 l1 t242 t253 t261 (t283 != t284)))) else (musterlaw13_NodesTells.j1 kj10 l1 t242 t253 t261 true))))) else (musterlaw13_NodesTells.j1 kj10 l1 t242 t253 t261 true))) = some r := H
            have A64 := Aside0.mk A640
            clear A640
            replace H := Option.bind_eq_some_iff.mp H
            obtain ⟨t275, A650, H⟩ := H
            replace H : (if t274 = t275 then ((nodes_Cores.f kj10 t242).bind fun t276 => ((musterref13_Cores.f kj10 l1).bind fun t279 => ((musterkit_SameInts.f kj10 t276 t279).bind fun t282 => (if t282 = true then ((nodes_Able.f t242 ((a2) % 4294967296) (Int.tmod a2 70)).bind fun t283 => ((musterref13_Able.f kj10 l1 ((a2) % 4294967296) (Int.tmod a2 70)).bind fun t284 => (musterlaw13_NodesTells.j1 kj10 l1 t242 t253 t261 (t283 != t284)))) else (musterlaw13_NodesTells.j1 kj10 l1 t242 t253 t261 true))))) else (musterlaw13_NodesTells.j1 kj10 l1 t242 t253 t261 true)) = some r := H
            have A65 := Aside0.mk A650
            clear A650
            by_cases c66 : t274 = t275
            · rw [if_pos c66] at H
              have c66b0 : (t274 == t275) = true := beq_iff_eq.mpr c66
              have c66b1 : (t274 != t275) = false := bne_eq_false_iff_eq.mpr c66
              clear c66
              (first | rw [c66b0] | (simp only [i64_w, i32_w]; rw [c66b0]) | skip)
              replace H := Option.bind_eq_some_iff.mp H
              obtain ⟨t276, A670, H⟩ := H
              replace H : ((musterref13_Cores.f kj10 l1).bind fun t279 => ((musterkit_SameInts.f kj10 t276 t279).bind fun t282 => (if t282 = true then ((nodes_Able.f t242 ((a2) % 4294967296) (Int.tmod a2 70)).bind fun t283 => ((musterref13_Able.f kj10 l1 ((a2) % 4294967296) (Int.tmod a2 70)).bind fun t284 => (musterlaw13_NodesTells.j1 kj10 l1 t242 t253 t261 (t283 != t284)))) else (musterlaw13_NodesTells.j1 kj10 l1 t242 t253 t261 true)))) = some r := H
              have A67 := Aside0.mk A670
              clear A670
              replace H := Option.bind_eq_some_iff.mp H
              obtain ⟨t279, A680, H⟩ := H
              replace H : ((musterkit_SameInts.f kj10 t276 t279).bind fun t282 => (if t282 = true then ((nodes_Able.f t242 ((a2) % 4294967296) (Int.tmod a2 70)).bind fun t283 => ((musterref13_Able.f kj10 l1 ((a2) % 4294967296) (Int.tmod a2 70)).bind fun t284 => (musterlaw13_NodesTells.j1 kj10 l1 t242 t253 t261 (t283 != t284)))) else (musterlaw13_NodesTells.j1 kj10 l1 t242 t253 t261 true))) = some r := H
              have A68 := Aside0.mk A680
              clear A680
              replace H := Option.bind_eq_some_iff.mp H
              obtain ⟨t282, A690, H⟩ := H
              replace H : (if t282 = true then ((nodes_Able.f t242 ((a2) % 4294967296) (Int.tmod a2 70)).bind fun t283 => ((musterref13_Able.f kj10 l1 ((a2) % 4294967296) (Int.tmod a2 70)).bind fun t284 => (musterlaw13_NodesTells.j1 kj10 l1 t242 t253 t261 (t283 != t284)))) else (musterlaw13_NodesTells.j1 kj10 l1 t242 t253 t261 true)) = some r := H
              have A69 := Aside0.mk A690
              clear A690
              by_cases c70 : t282 = true
              · subst c70
                have H1 : ((nodes_Able.f t242 ((a2) % 4294967296) (Int.tmod a2 70)).bind fun t283 => ((musterref13_Able.f kj10 l1 ((a2) % 4294967296) (Int.tmod a2 70)).bind fun t284 => (musterlaw13_NodesTells.j1 kj10 l1 t242 t253 t261 (t283 != t284)))) = some r := by rw [if_pos rfl] at H; exact H
                clear H
                have H := H1
                clear H1
                replace H := Option.bind_eq_some_iff.mp H
                obtain ⟨t283, A710, H⟩ := H
                replace H : ((musterref13_Able.f kj10 l1 ((a2) % 4294967296) (Int.tmod a2 70)).bind fun t284 => (musterlaw13_NodesTells.j1 kj10 l1 t242 t253 t261 (t283 != t284))) = some r := H
                have A71 := Aside0.mk A710
                clear A710
                replace H := Option.bind_eq_some_iff.mp H
                obtain ⟨t284, A720, H⟩ := H
                replace H : (musterlaw13_NodesTells.j1 kj10 l1 t242 t253 t261 (t283 != t284)) = some r := H
                have A72 := Aside0.mk A720
                clear A720
                have H' := Aside0.mk H
                clear H
                go_wp2_with (first | ((with_reducible refine gate_callee (f := 39) rfl ?_); refine goesL_ (some 102) rfl rfl Try.func39 (by kernel_rfl) rfl #[.slice Ao15 t242.length co15] rfl (by (try simp only [List.map_toArray, List.map_cons, List.map_nil]); first | done | rfl | (simp only [List.length_drop, List.length_take]; rfl)) ?_; (with_reducible refine (nodes_Up.calls _ _ t242 t274 _ ?side1 ?side2 A64.out).mono ?_); (case side1 => repeat (first | exact (Kd.R_reads' HO_7.out).2.2 | (with_reducible refine Kd.C_alloc ?_ _) | (with_reducible refine Kd.C_drewN ?_ _) | (with_reducible refine Kd.C_drew ?_))); (case side2 => exact (Kd.R_reads' HO_7.out).2.1); rintro e w73 ⟨rfl, hb⟩; refine ⟨_, rfl, ?_⟩; have n0_ := Aside0.mk (Kd.R_below (by (with_reducible repeat (first | apply Kd.R_alloc | apply Kd.R_drewN | apply Kd.R_drew)); exact HO_7.out) hb); have n1_ := Aside0.mk (Kd.R_below (by (with_reducible repeat (first | apply Kd.R_alloc | apply Kd.R_drewN | apply Kd.R_drew)); exact HO_12.out) hb); have n2_ := Aside0.mk (Kd.R_below (by (with_reducible repeat (first | apply Kd.R_alloc | apply Kd.R_drewN | apply Kd.R_drew)); exact HO_16.out) hb); have n3_ := Aside0.mk (below_step (by repeat (first | (with_reducible first | exact HB.out | apply below_alloc | apply pw_below_drewN | apply below_drew1) | exact HB.out)) hb); clear HO_7; clear HO_12; clear HO_16; clear HB; have HO_7 := n0_; have HO_12 := n1_; have HO_16 := n2_; have HB := n3_; clear n0_ n1_ n2_ n3_; (try clear hb); (try clear hb2); (try clear hk); (try clear hi)) | ((with_reducible refine gate_callee (f := 40) rfl ?_); refine goesL_ (some 104) rfl rfl Try.func40 (by kernel_rfl) rfl #[.slice A1 l1.length c1] rfl (by (try simp only [List.map_toArray, List.map_cons, List.map_nil]); first | done | rfl | (simp only [List.length_drop, List.length_take]; rfl)) ?_; (with_reducible refine (musterref13_Up.calls kj10 _ _ l1 t275 _ ?side1 ?side2 A65.out).mono ?_); (case side1 => repeat (first | exact (Kd.C_below HR1.out HB.out) | (with_reducible refine Kd.C_alloc ?_ _) | (with_reducible refine Kd.C_drewN ?_ _) | (with_reducible refine Kd.C_drew ?_))); (case side2 => exact HC1.out); rintro e w74 ⟨rfl, hb⟩; refine ⟨_, rfl, ?_⟩; have n0_ := Aside0.mk (Kd.R_below (by (with_reducible repeat (first | apply Kd.R_alloc | apply Kd.R_drewN | apply Kd.R_drew)); exact HO_7.out) hb); have n1_ := Aside0.mk (Kd.R_below (by (with_reducible repeat (first | apply Kd.R_alloc | apply Kd.R_drewN | apply Kd.R_drew)); exact HO_12.out) hb); have n2_ := Aside0.mk (Kd.R_below (by (with_reducible repeat (first | apply Kd.R_alloc | apply Kd.R_drewN | apply Kd.R_drew)); exact HO_16.out) hb); have n3_ := Aside0.mk (below_step (by repeat (first | (with_reducible first | exact HB.out | apply below_alloc | apply pw_below_drewN | apply below_drew1) | exact HB.out)) hb); clear HO_7; clear HO_12; clear HO_16; clear HB; have HO_7 := n0_; have HO_12 := n1_; have HO_16 := n2_; have HB := n3_; clear n0_ n1_ n2_ n3_; (try clear hb); (try clear hb2); (try clear hk); (try clear hi)) | (go_at_call 42; (with_reducible refine (nodes_Cores.calls kj10 _ _ t242 t276 _ ?side1 ?side2 A67.out).mono ?_); (case side1 => repeat (first | exact (Kd.R_reads' HO_7.out).2.2 | (with_reducible refine Kd.C_alloc ?_ _) | (with_reducible refine Kd.C_drewN ?_ _) | (with_reducible refine Kd.C_drew ?_))); (case side2 => exact (Kd.R_reads' HO_7.out).2.1); rintro e w75 ⟨v277, rfl, ho0, hb⟩; have n0_ := Aside0.mk (Kd.R_below (by (with_reducible repeat (first | apply Kd.R_alloc | apply Kd.R_drewN | apply Kd.R_drew)); exact HO_7.out) hb); have n1_ := Aside0.mk (Kd.R_below (by (with_reducible repeat (first | apply Kd.R_alloc | apply Kd.R_drewN | apply Kd.R_drew)); exact HO_12.out) hb); have n2_ := Aside0.mk (Kd.R_below (by (with_reducible repeat (first | apply Kd.R_alloc | apply Kd.R_drewN | apply Kd.R_drew)); exact HO_16.out) hb); have n3_ := Aside0.mk (Kd.R_lower ho0 (below_size (by repeat (first | (with_reducible first | exact HB.out | apply below_alloc | apply pw_below_drewN | apply below_drew1) | exact HB.out)))); have n4_ := Aside0.mk (below_step (by repeat (first | (with_reducible first | exact HB.out | apply below_alloc | apply pw_below_drewN | apply below_drew1) | exact HB.out)) hb); clear HO_7; clear HO_12; clear HO_16; clear HB; have HO_7 := n0_; have HO_12 := n1_; have HO_16 := n2_; have HO278 := n3_; have HB := n4_; clear n0_ n1_ n2_ n3_ n4_; (try clear hb); (try clear hb2); (try clear hk); (try clear hi); (try clear ho0)) | (go_at_call 43; (with_reducible refine (musterref13_Cores.calls kj10 _ _ l1 t279 _ ?side1 ?side2 A68.out).mono ?_); (case side1 => repeat (first | exact (Kd.C_below HR1.out HB.out) | (with_reducible refine Kd.C_alloc ?_ _) | (with_reducible refine Kd.C_drewN ?_ _) | (with_reducible refine Kd.C_drew ?_))); (case side2 => exact HC1.out); rintro e w76 ⟨v280, rfl, ho0, hb⟩; have n0_ := Aside0.mk (Kd.R_below (by (with_reducible repeat (first | apply Kd.R_alloc | apply Kd.R_drewN | apply Kd.R_drew)); exact HO_7.out) hb); have n1_ := Aside0.mk (Kd.R_below (by (with_reducible repeat (first | apply Kd.R_alloc | apply Kd.R_drewN | apply Kd.R_drew)); exact HO_12.out) hb); have n2_ := Aside0.mk (Kd.R_below (by (with_reducible repeat (first | apply Kd.R_alloc | apply Kd.R_drewN | apply Kd.R_drew)); exact HO_16.out) hb); have n3_ := Aside0.mk (Kd.R_elder' (by (with_reducible repeat (first | apply Kd.R_alloc | apply Kd.R_drewN | apply Kd.R_drew)); exact HO278.out) (Kd.R_base ho0) hb); have n4_ := Aside0.mk (Kd.R_lower (Kd.R_new' ho0 (Kd.R_lt (by (with_reducible repeat (first | apply Kd.R_alloc | apply Kd.R_drewN | apply Kd.R_drew)); exact HO278.out))) (below_size (by repeat (first | (with_reducible first | exact HB.out | apply below_alloc | apply pw_below_drewN | apply below_drew1) | exact HB.out)))); have n5_ := Aside0.mk (below_step (by repeat (first | (with_reducible first | exact HB.out | apply below_alloc | apply pw_below_drewN | apply below_drew1) | exact HB.out)) hb); clear HO_7; clear HO_12; clear HO_16; clear HO278; clear HB; have HO_7 := n0_; have HO_12 := n1_; have HO_16 := n2_; have HO278 := n3_; have HO281 := n4_; have HB := n5_; clear n0_ n1_ n2_ n3_ n4_ n5_; (try clear hb); (try clear hb2); (try clear hk); (try clear hi); (try clear ho0); obtain ⟨Ao77, co77, eo77⟩ := Kd.R_slice HO278.out; subst eo77; obtain ⟨Ao78, co78, eo78⟩ := Kd.R_slice HO281.out; subst eo78) | (go_at_call 41; (with_reducible refine (musterkit_SameInts.calls kj10 _ _ t276 _ _ t279 true _ ?side1 ?side2 ?side3 ?side4 A69.out).mono ?_); (case side1 => repeat (first | exact (Kd.R_reads' HO278.out).2.2 | (with_reducible refine Kd.C_alloc ?_ _) | (with_reducible refine Kd.C_drewN ?_ _) | (with_reducible refine Kd.C_drew ?_))); (case side2 => exact (Kd.R_reads' HO278.out).2.1); (case side3 => repeat (first | exact (Kd.R_reads' HO281.out).2.2 | (with_reducible refine Kd.C_alloc ?_ _) | (with_reducible refine Kd.C_drewN ?_ _) | (with_reducible refine Kd.C_drew ?_))); (case side4 => exact (Kd.R_reads' HO281.out).2.1); rintro e w' ⟨rfl, ⟨nd, rfl⟩⟩) | (go_at_call 44; (with_reducible refine (nodes_Able.calls _ _ t242 ((a2) % 4294967296) (Int.tmod a2 70) t283 _ ?side1 ?side2 A71.out).mono ?_); (case side1 => repeat (first | exact (Kd.R_reads' HO_7.out).2.2 | (with_reducible refine Kd.C_alloc ?_ _) | (with_reducible refine Kd.C_drewN ?_ _) | (with_reducible refine Kd.C_drew ?_))); (case side2 => exact (Kd.R_reads' HO_7.out).2.1); rintro e w79 ⟨rfl, hb⟩; have n0_ := Aside0.mk (Kd.R_below (by (with_reducible repeat (first | apply Kd.R_alloc | apply Kd.R_drewN | apply Kd.R_drew)); exact HO_7.out) hb); have n1_ := Aside0.mk (Kd.R_below (by (with_reducible repeat (first | apply Kd.R_alloc | apply Kd.R_drewN | apply Kd.R_drew)); exact HO_12.out) hb); have n2_ := Aside0.mk (Kd.R_below (by (with_reducible repeat (first | apply Kd.R_alloc | apply Kd.R_drewN | apply Kd.R_drew)); exact HO_16.out) hb); have n3_ := Aside0.mk (Kd.R_below (by (with_reducible repeat (first | apply Kd.R_alloc | apply Kd.R_drewN | apply Kd.R_drew)); exact HO278.out) hb); have n4_ := Aside0.mk (Kd.R_below (by (with_reducible repeat (first | apply Kd.R_alloc | apply Kd.R_drewN | apply Kd.R_drew)); exact HO281.out) hb); have n5_ := Aside0.mk (below_step (by repeat (first | (with_reducible first | exact HB.out | apply below_alloc | apply pw_below_drewN | apply below_drew1) | exact HB.out)) hb); clear HO_7; clear HO_12; clear HO_16; clear HO278; clear HO281; clear HB; have HO_7 := n0_; have HO_12 := n1_; have HO_16 := n2_; have HO278 := n3_; have HO281 := n4_; have HB := n5_; clear n0_ n1_ n2_ n3_ n4_ n5_; (try clear hb); (try clear hb2); (try clear hk); (try clear hi)) | (go_at_call 45; (with_reducible refine (musterref13_Able.calls kj10 _ _ l1 ((a2) % 4294967296) (Int.tmod a2 70) t284 _ ?side1 ?side2 A72.out).mono ?_); (case side1 => repeat (first | exact (Kd.C_below HR1.out HB.out) | (with_reducible refine Kd.C_alloc ?_ _) | (with_reducible refine Kd.C_drewN ?_ _) | (with_reducible refine Kd.C_drew ?_))); (case side2 => exact HC1.out); rintro e w80 ⟨rfl, hb⟩; have n0_ := Aside0.mk (Kd.R_below (by (with_reducible repeat (first | apply Kd.R_alloc | apply Kd.R_drewN | apply Kd.R_drew)); exact HO_7.out) hb); have n1_ := Aside0.mk (Kd.R_below (by (with_reducible repeat (first | apply Kd.R_alloc | apply Kd.R_drewN | apply Kd.R_drew)); exact HO_12.out) hb); have n2_ := Aside0.mk (Kd.R_below (by (with_reducible repeat (first | apply Kd.R_alloc | apply Kd.R_drewN | apply Kd.R_drew)); exact HO_16.out) hb); have n3_ := Aside0.mk (Kd.R_below (by (with_reducible repeat (first | apply Kd.R_alloc | apply Kd.R_drewN | apply Kd.R_drew)); exact HO278.out) hb); have n4_ := Aside0.mk (Kd.R_below (by (with_reducible repeat (first | apply Kd.R_alloc | apply Kd.R_drewN | apply Kd.R_drew)); exact HO281.out) hb); have n5_ := Aside0.mk (below_step (by repeat (first | (with_reducible first | exact HB.out | apply below_alloc | apply pw_below_drewN | apply below_drew1) | exact HB.out)) hb); clear HO_7; clear HO_12; clear HO_16; clear HO278; clear HO281; clear HB; have HO_7 := n0_; have HO_12 := n1_; have HO_16 := n2_; have HO278 := n3_; have HO281 := n4_; have HB := n5_; clear n0_ n1_ n2_ n3_ n4_ n5_; (try clear hb); (try clear hb2); (try clear hk); (try clear hi)))
                go_meet
                case rel => exact ⟨_, ((t283 != t284)), (by first | rfl | (simp; done) | (simp [*]; done)), H', ⟨by have := HJ10.out; first | omega | exact Nat.le_refl _⟩, ⟨by (with_reducible repeat (first | apply Kd.R_alloc | apply Kd.R_drewN | apply Kd.R_drew)); exact HO_7.out⟩, ⟨by (with_reducible repeat (first | apply Kd.R_alloc | apply Kd.R_drewN | apply Kd.R_drew)); exact HO_12.out⟩, ⟨by (with_reducible repeat (first | apply Kd.R_alloc | apply Kd.R_drewN | apply Kd.R_drew)); exact HO_16.out⟩, ⟨by repeat (first | (with_reducible first | exact HB.out | apply below_alloc | apply pw_below_drewN | apply below_drew1) | exact HB.out)⟩⟩
              · replace c70 := Bool.eq_false_iff.mpr c70
                subst c70
                have H1 : (musterlaw13_NodesTells.j1 kj10 l1 t242 t253 t261 true) = some r := by rw [if_neg (show ¬ (false = true) by decide)] at H; exact H
                clear H
                have H := H1
                clear H1
                have H' := Aside0.mk H
                clear H
                go_wp2_with (first | ((with_reducible refine gate_callee (f := 39) rfl ?_); refine goesL_ (some 102) rfl rfl Try.func39 (by kernel_rfl) rfl #[.slice Ao15 t242.length co15] rfl (by (try simp only [List.map_toArray, List.map_cons, List.map_nil]); first | done | rfl | (simp only [List.length_drop, List.length_take]; rfl)) ?_; (with_reducible refine (nodes_Up.calls _ _ t242 t274 _ ?side1 ?side2 A64.out).mono ?_); (case side1 => repeat (first | exact (Kd.R_reads' HO_7.out).2.2 | (with_reducible refine Kd.C_alloc ?_ _) | (with_reducible refine Kd.C_drewN ?_ _) | (with_reducible refine Kd.C_drew ?_))); (case side2 => exact (Kd.R_reads' HO_7.out).2.1); rintro e w81 ⟨rfl, hb⟩; refine ⟨_, rfl, ?_⟩; have n0_ := Aside0.mk (Kd.R_below (by (with_reducible repeat (first | apply Kd.R_alloc | apply Kd.R_drewN | apply Kd.R_drew)); exact HO_7.out) hb); have n1_ := Aside0.mk (Kd.R_below (by (with_reducible repeat (first | apply Kd.R_alloc | apply Kd.R_drewN | apply Kd.R_drew)); exact HO_12.out) hb); have n2_ := Aside0.mk (Kd.R_below (by (with_reducible repeat (first | apply Kd.R_alloc | apply Kd.R_drewN | apply Kd.R_drew)); exact HO_16.out) hb); have n3_ := Aside0.mk (below_step (by repeat (first | (with_reducible first | exact HB.out | apply below_alloc | apply pw_below_drewN | apply below_drew1) | exact HB.out)) hb); clear HO_7; clear HO_12; clear HO_16; clear HB; have HO_7 := n0_; have HO_12 := n1_; have HO_16 := n2_; have HB := n3_; clear n0_ n1_ n2_ n3_; (try clear hb); (try clear hb2); (try clear hk); (try clear hi)) | ((with_reducible refine gate_callee (f := 40) rfl ?_); refine goesL_ (some 104) rfl rfl Try.func40 (by kernel_rfl) rfl #[.slice A1 l1.length c1] rfl (by (try simp only [List.map_toArray, List.map_cons, List.map_nil]); first | done | rfl | (simp only [List.length_drop, List.length_take]; rfl)) ?_; (with_reducible refine (musterref13_Up.calls kj10 _ _ l1 t275 _ ?side1 ?side2 A65.out).mono ?_); (case side1 => repeat (first | exact (Kd.C_below HR1.out HB.out) | (with_reducible refine Kd.C_alloc ?_ _) | (with_reducible refine Kd.C_drewN ?_ _) | (with_reducible refine Kd.C_drew ?_))); (case side2 => exact HC1.out); rintro e w82 ⟨rfl, hb⟩; refine ⟨_, rfl, ?_⟩; have n0_ := Aside0.mk (Kd.R_below (by (with_reducible repeat (first | apply Kd.R_alloc | apply Kd.R_drewN | apply Kd.R_drew)); exact HO_7.out) hb); have n1_ := Aside0.mk (Kd.R_below (by (with_reducible repeat (first | apply Kd.R_alloc | apply Kd.R_drewN | apply Kd.R_drew)); exact HO_12.out) hb); have n2_ := Aside0.mk (Kd.R_below (by (with_reducible repeat (first | apply Kd.R_alloc | apply Kd.R_drewN | apply Kd.R_drew)); exact HO_16.out) hb); have n3_ := Aside0.mk (below_step (by repeat (first | (with_reducible first | exact HB.out | apply below_alloc | apply pw_below_drewN | apply below_drew1) | exact HB.out)) hb); clear HO_7; clear HO_12; clear HO_16; clear HB; have HO_7 := n0_; have HO_12 := n1_; have HO_16 := n2_; have HB := n3_; clear n0_ n1_ n2_ n3_; (try clear hb); (try clear hb2); (try clear hk); (try clear hi)) | (go_at_call 42; (with_reducible refine (nodes_Cores.calls kj10 _ _ t242 t276 _ ?side1 ?side2 A67.out).mono ?_); (case side1 => repeat (first | exact (Kd.R_reads' HO_7.out).2.2 | (with_reducible refine Kd.C_alloc ?_ _) | (with_reducible refine Kd.C_drewN ?_ _) | (with_reducible refine Kd.C_drew ?_))); (case side2 => exact (Kd.R_reads' HO_7.out).2.1); rintro e w83 ⟨v277, rfl, ho0, hb⟩; have n0_ := Aside0.mk (Kd.R_below (by (with_reducible repeat (first | apply Kd.R_alloc | apply Kd.R_drewN | apply Kd.R_drew)); exact HO_7.out) hb); have n1_ := Aside0.mk (Kd.R_below (by (with_reducible repeat (first | apply Kd.R_alloc | apply Kd.R_drewN | apply Kd.R_drew)); exact HO_12.out) hb); have n2_ := Aside0.mk (Kd.R_below (by (with_reducible repeat (first | apply Kd.R_alloc | apply Kd.R_drewN | apply Kd.R_drew)); exact HO_16.out) hb); have n3_ := Aside0.mk (Kd.R_lower ho0 (below_size (by repeat (first | (with_reducible first | exact HB.out | apply below_alloc | apply pw_below_drewN | apply below_drew1) | exact HB.out)))); have n4_ := Aside0.mk (below_step (by repeat (first | (with_reducible first | exact HB.out | apply below_alloc | apply pw_below_drewN | apply below_drew1) | exact HB.out)) hb); clear HO_7; clear HO_12; clear HO_16; clear HB; have HO_7 := n0_; have HO_12 := n1_; have HO_16 := n2_; have HO278 := n3_; have HB := n4_; clear n0_ n1_ n2_ n3_ n4_; (try clear hb); (try clear hb2); (try clear hk); (try clear hi); (try clear ho0)) | (go_at_call 43; (with_reducible refine (musterref13_Cores.calls kj10 _ _ l1 t279 _ ?side1 ?side2 A68.out).mono ?_); (case side1 => repeat (first | exact (Kd.C_below HR1.out HB.out) | (with_reducible refine Kd.C_alloc ?_ _) | (with_reducible refine Kd.C_drewN ?_ _) | (with_reducible refine Kd.C_drew ?_))); (case side2 => exact HC1.out); rintro e w84 ⟨v280, rfl, ho0, hb⟩; have n0_ := Aside0.mk (Kd.R_below (by (with_reducible repeat (first | apply Kd.R_alloc | apply Kd.R_drewN | apply Kd.R_drew)); exact HO_7.out) hb); have n1_ := Aside0.mk (Kd.R_below (by (with_reducible repeat (first | apply Kd.R_alloc | apply Kd.R_drewN | apply Kd.R_drew)); exact HO_12.out) hb); have n2_ := Aside0.mk (Kd.R_below (by (with_reducible repeat (first | apply Kd.R_alloc | apply Kd.R_drewN | apply Kd.R_drew)); exact HO_16.out) hb); have n3_ := Aside0.mk (Kd.R_elder' (by (with_reducible repeat (first | apply Kd.R_alloc | apply Kd.R_drewN | apply Kd.R_drew)); exact HO278.out) (Kd.R_base ho0) hb); have n4_ := Aside0.mk (Kd.R_lower (Kd.R_new' ho0 (Kd.R_lt (by (with_reducible repeat (first | apply Kd.R_alloc | apply Kd.R_drewN | apply Kd.R_drew)); exact HO278.out))) (below_size (by repeat (first | (with_reducible first | exact HB.out | apply below_alloc | apply pw_below_drewN | apply below_drew1) | exact HB.out)))); have n5_ := Aside0.mk (below_step (by repeat (first | (with_reducible first | exact HB.out | apply below_alloc | apply pw_below_drewN | apply below_drew1) | exact HB.out)) hb); clear HO_7; clear HO_12; clear HO_16; clear HO278; clear HB; have HO_7 := n0_; have HO_12 := n1_; have HO_16 := n2_; have HO278 := n3_; have HO281 := n4_; have HB := n5_; clear n0_ n1_ n2_ n3_ n4_ n5_; (try clear hb); (try clear hb2); (try clear hk); (try clear hi); (try clear ho0); obtain ⟨Ao85, co85, eo85⟩ := Kd.R_slice HO278.out; subst eo85; obtain ⟨Ao86, co86, eo86⟩ := Kd.R_slice HO281.out; subst eo86) | (go_at_call 41; (with_reducible refine (musterkit_SameInts.calls kj10 _ _ t276 _ _ t279 false _ ?side1 ?side2 ?side3 ?side4 A69.out).mono ?_); (case side1 => repeat (first | exact (Kd.R_reads' HO278.out).2.2 | (with_reducible refine Kd.C_alloc ?_ _) | (with_reducible refine Kd.C_drewN ?_ _) | (with_reducible refine Kd.C_drew ?_))); (case side2 => exact (Kd.R_reads' HO278.out).2.1); (case side3 => repeat (first | exact (Kd.R_reads' HO281.out).2.2 | (with_reducible refine Kd.C_alloc ?_ _) | (with_reducible refine Kd.C_drewN ?_ _) | (with_reducible refine Kd.C_drew ?_))); (case side4 => exact (Kd.R_reads' HO281.out).2.1); rintro e w' ⟨rfl, ⟨nd, rfl⟩⟩))
                go_meet
                case rel => exact ⟨_, (true), (by first | rfl | (simp; done) | (simp [*]; done)), H', ⟨by have := HJ10.out; first | omega | exact Nat.le_refl _⟩, ⟨by (with_reducible repeat (first | apply Kd.R_alloc | apply Kd.R_drewN | apply Kd.R_drew)); exact HO_7.out⟩, ⟨by (with_reducible repeat (first | apply Kd.R_alloc | apply Kd.R_drewN | apply Kd.R_drew)); exact HO_12.out⟩, ⟨by (with_reducible repeat (first | apply Kd.R_alloc | apply Kd.R_drewN | apply Kd.R_drew)); exact HO_16.out⟩, ⟨by repeat (first | (with_reducible first | exact HB.out | apply below_alloc | apply pw_below_drewN | apply below_drew1) | exact HB.out)⟩⟩
            · rw [if_neg c66] at H
              have c66b0 : (t274 == t275) = false := beq_eq_false_iff_ne.mpr c66
              have c66b1 : (t274 != t275) = true := bne_iff_ne.mpr c66
              (first | rw [c66b0] | (simp only [i64_w, i32_w]; rw [c66b0]) | skip)
              have H' := Aside0.mk H
              clear H
              go_wp2_with (first | ((with_reducible refine gate_callee (f := 39) rfl ?_); refine goesL_ (some 102) rfl rfl Try.func39 (by kernel_rfl) rfl #[.slice Ao15 t242.length co15] rfl (by (try simp only [List.map_toArray, List.map_cons, List.map_nil]); first | done | rfl | (simp only [List.length_drop, List.length_take]; rfl)) ?_; (with_reducible refine (nodes_Up.calls _ _ t242 t274 _ ?side1 ?side2 A64.out).mono ?_); (case side1 => repeat (first | exact (Kd.R_reads' HO_7.out).2.2 | (with_reducible refine Kd.C_alloc ?_ _) | (with_reducible refine Kd.C_drewN ?_ _) | (with_reducible refine Kd.C_drew ?_))); (case side2 => exact (Kd.R_reads' HO_7.out).2.1); rintro e w87 ⟨rfl, hb⟩; refine ⟨_, rfl, ?_⟩; have n0_ := Aside0.mk (Kd.R_below (by (with_reducible repeat (first | apply Kd.R_alloc | apply Kd.R_drewN | apply Kd.R_drew)); exact HO_7.out) hb); have n1_ := Aside0.mk (Kd.R_below (by (with_reducible repeat (first | apply Kd.R_alloc | apply Kd.R_drewN | apply Kd.R_drew)); exact HO_12.out) hb); have n2_ := Aside0.mk (Kd.R_below (by (with_reducible repeat (first | apply Kd.R_alloc | apply Kd.R_drewN | apply Kd.R_drew)); exact HO_16.out) hb); have n3_ := Aside0.mk (below_step (by repeat (first | (with_reducible first | exact HB.out | apply below_alloc | apply pw_below_drewN | apply below_drew1) | exact HB.out)) hb); clear HO_7; clear HO_12; clear HO_16; clear HB; have HO_7 := n0_; have HO_12 := n1_; have HO_16 := n2_; have HB := n3_; clear n0_ n1_ n2_ n3_; (try clear hb); (try clear hb2); (try clear hk); (try clear hi)) | ((with_reducible refine gate_callee (f := 40) rfl ?_); refine goesL_ (some 104) rfl rfl Try.func40 (by kernel_rfl) rfl #[.slice A1 l1.length c1] rfl (by (try simp only [List.map_toArray, List.map_cons, List.map_nil]); first | done | rfl | (simp only [List.length_drop, List.length_take]; rfl)) ?_; (with_reducible refine (musterref13_Up.calls kj10 _ _ l1 t275 _ ?side1 ?side2 A65.out).mono ?_); (case side1 => repeat (first | exact (Kd.C_below HR1.out HB.out) | (with_reducible refine Kd.C_alloc ?_ _) | (with_reducible refine Kd.C_drewN ?_ _) | (with_reducible refine Kd.C_drew ?_))); (case side2 => exact HC1.out); rintro e w88 ⟨rfl, hb⟩; refine ⟨_, rfl, ?_⟩; have n0_ := Aside0.mk (Kd.R_below (by (with_reducible repeat (first | apply Kd.R_alloc | apply Kd.R_drewN | apply Kd.R_drew)); exact HO_7.out) hb); have n1_ := Aside0.mk (Kd.R_below (by (with_reducible repeat (first | apply Kd.R_alloc | apply Kd.R_drewN | apply Kd.R_drew)); exact HO_12.out) hb); have n2_ := Aside0.mk (Kd.R_below (by (with_reducible repeat (first | apply Kd.R_alloc | apply Kd.R_drewN | apply Kd.R_drew)); exact HO_16.out) hb); have n3_ := Aside0.mk (below_step (by repeat (first | (with_reducible first | exact HB.out | apply below_alloc | apply pw_below_drewN | apply below_drew1) | exact HB.out)) hb); clear HO_7; clear HO_12; clear HO_16; clear HB; have HO_7 := n0_; have HO_12 := n1_; have HO_16 := n2_; have HB := n3_; clear n0_ n1_ n2_ n3_; (try clear hb); (try clear hb2); (try clear hk); (try clear hi)))
              go_meet
              case rel => exact ⟨_, (true), (by first | rfl | (simp; done) | (simp [*]; done)), H', ⟨by have := HJ10.out; first | omega | exact Nat.le_refl _⟩, ⟨by (with_reducible repeat (first | apply Kd.R_alloc | apply Kd.R_drewN | apply Kd.R_drew)); exact HO_7.out⟩, ⟨by (with_reducible repeat (first | apply Kd.R_alloc | apply Kd.R_drewN | apply Kd.R_drew)); exact HO_12.out⟩, ⟨by (with_reducible repeat (first | apply Kd.R_alloc | apply Kd.R_drewN | apply Kd.R_drew)); exact HO_16.out⟩, ⟨by repeat (first | (with_reducible first | exact HB.out | apply below_alloc | apply pw_below_drewN | apply below_drew1) | exact HB.out)⟩⟩
          case rest =>
            clear HC63
            try clear c1
            try clear c2
            try clear p2
            try clear c3
            try clear c4
            try clear c6
            try clear c7
            try clear c21
            try clear c22
            try clear c22b0
            try clear c22b1
            try clear c24
            try clear c25
            try clear c25b0
            try clear c25b1
            try clear c27
            try clear c28
            try clear c28b0
            try clear c28b1
            try clear c30
            try clear c31
            try clear c33
            try clear c34
            try clear c35
            try clear c36
            try clear c37
            try clear c39
            try clear c40
            try clear c62
            try clear c66
            try clear c66b0
            try clear c66b1
            try clear c70
            try clear p2
            obtain ⟨kq, x128_62, rfl, HA, HJ62, HO_7, HO_12, HO_16, HB⟩ := hcut
            cases kq with
            | zero => exact absurd HA.out (by simp [musterlaw13_NodesTells.j1])
            | succ kj62 =>
              have H := HA.out
              clear HA
              simp only [musterlaw13_NodesTells.j1] at H
              by_cases c89 : x128_62 = true
              · subst c89
                have H1 : (some false) = some r := by rw [if_pos rfl] at H; exact H
                clear H
                have H := H1
                clear H1
                obtain rfl := Option.some.inj H
                go_wp2
                go_ret
                exact ⟨by first | rfl | (simp [errW_none, errW_some] <;> rfl) | (simp [*, errW_none, errW_some] <;> rfl), by repeat (first | (with_reducible first | exact HB.out | apply below_alloc | apply pw_below_drewN | apply below_drew1) | exact HB.out)⟩
              · replace c89 := Bool.eq_false_iff.mpr c89
                subst c89
                have H1 : (musterlaw13_NodesTells.l0 kj62 l1 t242 t253 t261 0) = some r := by rw [if_neg (show ¬ (false = true) by decide)] at H; exact H
                clear H
                have H := H1
                clear H1
                have H' := Aside0.mk H
                clear H
                go_wp2
                go_loopg [20] kj62 (fun kq v20 w' => ∃ (x12_3 : List (S55)) (x20_3 : Int), v20 = .int .i64 x20_3 ∧ Aside0 (musterlaw13_NodesTells.l0 kq l1 t242 x12_3 t261 x20_3 = some r) ∧ Aside0 (kq ≤ kj62) ∧ Aside0 (Kd.R k55 55 w' w.heap.size (fun k_ => some k_ ≠ (v255 : Value).ownBlock ∧ some k_ ≠ (v263 : Value).ownBlock) (.slice Ao15 t242.length co15) t242) ∧ Aside0 (Kd.R k55 55 w' w.heap.size (fun k_ => some k_ ≠ ((.slice Ao15 t242.length co15) : Value).ownBlock ∧ some k_ ≠ (v263 : Value).ownBlock) v255 x12_3) ∧ Aside0 (Kd.R k55 55 w' w.heap.size (fun k_ => some k_ ≠ ((.slice Ao15 t242.length co15) : Value).ownBlock ∧ some k_ ≠ (v255 : Value).ownBlock) v263 t261) ∧ Aside0 (Below w.heap.size w w'))
                case atStart => exact ⟨(t253), (0), (by first | rfl | (simp; done) | (simp [*]; done)), H', ⟨Nat.le_refl _⟩, ⟨by (with_reducible repeat (first | apply Kd.R_alloc | apply Kd.R_drewN | apply Kd.R_drew)); exact HO_7.out⟩, ⟨by (with_reducible repeat (first | apply Kd.R_alloc | apply Kd.R_drewN | apply Kd.R_drew)); exact HO_12.out⟩, ⟨by (with_reducible repeat (first | apply Kd.R_alloc | apply Kd.R_drewN | apply Kd.R_drew)); exact HO_16.out⟩, ⟨by repeat (first | (with_reducible first | exact HB.out | apply below_alloc | apply pw_below_drewN | apply below_drew1) | exact HB.out)⟩⟩
                case round =>
                  clear H'
                  try clear c1
                  try clear c2
                  try clear p2
                  try clear c3
                  try clear c4
                  try clear c6
                  try clear c7
                  try clear c8
                  try clear c21
                  try clear c22
                  try clear c22b0
                  try clear c22b1
                  try clear c24
                  try clear c25
                  try clear c25b0
                  try clear c25b1
                  try clear c27
                  try clear c28
                  try clear c28b0
                  try clear c28b1
                  try clear c30
                  try clear c31
                  try clear c33
                  try clear c34
                  try clear c35
                  try clear c36
                  try clear c37
                  try clear c39
                  try clear c40
                  try clear c62
                  try clear c66
                  try clear c66b0
                  try clear c66b1
                  try clear c70
                  try clear c89
                  try clear p2
                  obtain ⟨x12_3, x20_3, rfl, HA, HK3, HO_7, HO_12, HO_16, HB⟩ := hrel
                  cases gk with
                  | zero => exact absurd HA.out (by simp [musterlaw13_NodesTells.l0])
                  | succ k3 =>
                    have H := HA.out
                    clear HA
                    simp only [musterlaw13_NodesTells.l0] at H
                    by_cases c90 : x20_3 < (x12_3.length : Int)
                    · rw [if_pos c90] at H
                      have c90b0 : decide (x20_3 < (x12_3.length : Int)) = true := decide_eq_true c90
                      clear c90
                      by_cases c91 : 0 ≤ x20_3
                      · rw [if_pos c91] at H
                        have c91b0 : decide (0 ≤ x20_3) = true := decide_eq_true c91
                        clear c91
                        obtain ⟨y285, hy285⟩ : ∃ y_ : List (S55), y_ = (x12_3.set (x20_3 : Int).toNat (⟨99, (rd_T55 x12_3 x20_3).f1, (rd_T55 x12_3 x20_3).f2⟩ : S55)) := ⟨_, rfl⟩
                        replace H : (musterlaw13_NodesTells.l0 k3 l1 t242 y285 t261 (wrap64 (x20_3 + 1))) = some r := by first | (rw [hy285]; with_reducible exact H) | (have H2_ := (Option.bind_some _ _).symm.trans H; rw [hy285]; with_reducible exact H2_) | (have H2_ := (Option.bind_some _ _).symm.trans H; with_reducible exact H2_) | with_reducible exact H | (rw [hy285]; exact H) | exact H
                        have Ny285 := Aside0.mk hy285
                        clear hy285
                        have H' := Aside0.mk H
                        clear H
                        obtain ⟨Ao93, co93, eo93⟩ := Kd.R_slice HO_12.out
                        subst eo93
                        have p92 : 0 ≤ (x20_3 : Int) := of_decide_eq_true (by first | (with_reducible assumption) | assumption)
                        have q92 : (x20_3 : Int) < ((x12_3.length : Int) : Int) := of_decide_eq_true (by first | (with_reducible assumption) | assumption)
                        obtain ⟨go92, co92, eo92, gb92, gl92, cl92, HG92⟩ := Kd.R_form HO_12.out (by omega)
                        (first | cases eo92 | (injection eo92 with ea_ en_ ec_; (first | subst ea_ | (injection ea_ with ea_; subst ea_)); subst ec_; clear en_))
                        have GB92 := Aside0.mk gb92
                        have GG92 := Aside0.mk HG92
                        clear gb92 gl92 HG92
                        obtain ⟨ce92, hcl92, hM92, hcc92, hfr92⟩ := Kd.R_elem HO_12.out z55 (x20_3 : Int) p92 q92
                        obtain rfl := k55_openM hM92
                        have hx92_0 : wr.cell? ⟨go92, (x20_3 : Int).toNat * 3, none⟩ = some (.int .i64 ((rd_T55 x12_3 x20_3).f0)) := hcc92 0 _ rfl
                        have hx92_1 : wr.cell? ⟨go92, (x20_3 : Int).toNat * 3 + 1, none⟩ = some (.bool ((rd_T55 x12_3 x20_3).f1)) := hcc92 1 _ rfl
                        have hx92_2 : wr.cell? ⟨go92, (x20_3 : Int).toNat * 3 + 2, none⟩ = some (.int .i64 ((rd_T55 x12_3 x20_3).f2)) := hcc92 2 _ rfl
                        have hf92_0 : wr.frozen? ⟨go92, (x20_3 : Int).toNat * 3, none⟩ = false := hfr92 0
                        have hf92_1 : wr.frozen? ⟨go92, (x20_3 : Int).toNat * 3 + 1, none⟩ = false := hfr92 1
                        have hf92_2 : wr.frozen? ⟨go92, (x20_3 : Int).toNat * 3 + 2, none⟩ = false := hfr92 2
                        clear hcl92 hcc92 hfr92 hM92
                        replace p92 := eq_true p92
                        replace q92 := eq_true q92
                        have HX94 := Aside0.mk (show Kd.R k55 55 wr w.heap.size (fun k_ => some k_ ≠ (.slice Ao15 t242.length co15 : Value).ownBlock ∧ some k_ ≠ (v263 : Value).ownBlock) (.slice (some ⟨go92, 0, none⟩) x12_3.length co93) x12_3 from (by (with_reducible repeat (first | apply Kd.R_alloc | apply Kd.R_drewN | apply Kd.R_drew)); exact HO_12.out))
                        obtain ⟨ce94, hcl94, hM94, hcc94, hfr94⟩ := Kd.R_elem HX94.out z55 (x20_3 : Int) (of_decide_eq_true (by first | (with_reducible assumption) | assumption)) (by have h_ : (x20_3 : Int) < ((x12_3.length : Int) : Int) := of_decide_eq_true (by first | (with_reducible assumption) | assumption); first | exact h_ | (have e_ := (Kd.R_reads' HO_12.out).1; omega) | simpa using h_)
                        obtain rfl := k55_openM hM94
                        have HP94 := Kd.R_seg HX94.out (x20_3 : Int) (of_decide_eq_true (by first | (with_reducible assumption) | assumption)) (by have h_ : (x20_3 : Int) < ((x12_3.length : Int) : Int) := of_decide_eq_true (by first | (with_reducible assumption) | assumption); first | exact h_ | (have e_ := (Kd.R_reads' HO_12.out).1; omega) | simpa using h_) (seg := [.int .i64 99]) (j := 0) hcl94 hcc94 (show 1 ≤ 3 from by decide) (x' := (⟨99, (rd_T55 x12_3 x20_3).f1, (rd_T55 x12_3 x20_3).f2⟩ : S55)) (k55_mkM _ _ _ (⟨99, (rd_T55 x12_3 x20_3).f1, (rd_T55 x12_3 x20_3).f2⟩ : S55) ) (fun _ hk => hk)
                        have hx94_0 := hcc94 0 _ rfl
                        (try simp only [show (k55).sz = 3 from rfl, Nat.mul_one, Nat.add_zero] at hx94_0)
                        have hf94_0 := hfr94 0
                        (try simp only [show (k55).sz = 3 from rfl, Nat.mul_one, Nat.add_zero] at hf94_0)
                        clear hcl94 hcc94 hfr94 hM94
                        go_wp2_with (first | ((with_reducible refine gate_store (t := 3) (p := 138) rfl ?_); refine store_event (t := 3) (p := 138) (v := ?vo_w95) (w1 := (wr.setCell ⟨go92, (x20_3 : Int).toNat * 3, none⟩ (.int .i64 99))) ?hg ?ho ?hn ?hr ?_; (case ho => rfl); (case hg => rfl); (case hn => rfl); (case hr => first | (go_simp; done) | (go_simp; rfl)); intro w95 hw; have hg : wr.grownBy w95 (some go92) := (by rw [hw]; exact HP94.2); have hp_ : Kd.R k55 55 w95 w.heap.size (fun k_ => some k_ ≠ (.slice Ao15 t242.length co15 : Value).ownBlock ∧ some k_ ≠ (v263 : Value).ownBlock) (.slice (some ⟨go92, 0, none⟩) x12_3.length co93) y285 := (by rw [hw, Ny285.out]; exact HP94.1); clear HP94; have n0_ := Aside0.mk (Kd.R_after (v := (.slice (some ⟨go92, 0, none⟩) x12_3.length co93)) (v1 := (.slice (some ⟨go92, 0, none⟩) x12_3.length co93)) (ok := (fun k_ => some k_ ≠ (v263 : Value).ownBlock)) (by (with_reducible repeat (first | apply Kd.R_alloc | apply Kd.R_drewN | apply Kd.R_drew)); exact Kd.R_mono HO_7.out (fun _ hk => ⟨hk.2, hk.1⟩)) hg (.inl rfl)); have n1_ := Aside0.mk (hp_); have n2_ := Aside0.mk (Kd.R_after (v := (.slice (some ⟨go92, 0, none⟩) x12_3.length co93)) (v1 := (.slice (some ⟨go92, 0, none⟩) x12_3.length co93)) (ok := (fun k_ => some k_ ≠ (.slice Ao15 t242.length co15 : Value).ownBlock)) (by (with_reducible repeat (first | apply Kd.R_alloc | apply Kd.R_drewN | apply Kd.R_drew)); exact HO_16.out) hg (.inl rfl)); have n3_ := Aside0.mk ((by rw [hw]; exact below_set (HB.out) GB92.out : Below w.heap.size w w95)); clear HO_7; clear HO_12; clear HO_16; clear HB; have HO_7 := n0_; have HO_12 := n1_; have HO_16 := n2_; have HB := n3_; clear n0_ n1_ n2_ n3_; clear hg hw hp_))
                        go_roundg k3
                        case measure => have := HJ10.out; have := HJ62.out; have := HK3.out; omega
                        case rel => exact ⟨(y285), (wrap64 (x20_3 + 1)), (by first | rfl | (simp; done) | (simp [*]; done)), H', ⟨by have := HJ10.out; have := HJ62.out; have := HK3.out; omega⟩, ⟨by (with_reducible repeat (first | apply Kd.R_alloc | apply Kd.R_drewN | apply Kd.R_drew)); exact Kd.R_mono HO_7.out (fun _ hk => ⟨hk.2, hk.1⟩)⟩, ⟨by (with_reducible repeat (first | apply Kd.R_alloc | apply Kd.R_drewN | apply Kd.R_drew)); exact HO_12.out⟩, ⟨by (with_reducible repeat (first | apply Kd.R_alloc | apply Kd.R_drewN | apply Kd.R_drew)); exact HO_16.out⟩, ⟨by repeat (first | (with_reducible first | exact HB.out | apply below_alloc | apply pw_below_drewN | apply below_drew1) | exact HB.out)⟩⟩
                      · rw [if_neg c91] at H
                        exact absurd H (by simp)
                    · rw [if_neg c90] at H
                      have c90b0 : decide (x20_3 < (x12_3.length : Int)) = false := decide_eq_false c90
                      clear c90
                      have H' := Aside0.mk H
                      clear H
                      obtain ⟨Ao96, co96, eo96⟩ := Kd.R_slice HO_12.out
                      subst eo96
                      go_wp2
                      go_loopg [21] k3 (fun kq v21 w' => ∃ (x16_4 : List (S55)) (x21_4 : Int), v21 = .int .i64 x21_4 ∧ Aside0 (musterlaw13_NodesTells.l1 kq l1 t242 x16_4 x21_4 = some r) ∧ Aside0 (kq ≤ k3) ∧ Aside0 (Kd.R k55 55 w' w.heap.size (fun k_ => some k_ ≠ (v263 : Value).ownBlock) (.slice Ao15 t242.length co15) t242) ∧ Aside0 (Kd.R k55 55 w' w.heap.size (fun k_ => some k_ ≠ ((.slice Ao15 t242.length co15) : Value).ownBlock) v263 x16_4) ∧ Aside0 (Below w.heap.size w w'))
                      case atStart => exact ⟨(t261), (0), (by first | rfl | (simp; done) | (simp [*]; done)), H', ⟨Nat.le_refl _⟩, ⟨by (with_reducible repeat (first | apply Kd.R_alloc | apply Kd.R_drewN | apply Kd.R_drew)); exact Kd.R_mono HO_7.out (fun _ hk => hk.2)⟩, ⟨by (with_reducible repeat (first | apply Kd.R_alloc | apply Kd.R_drewN | apply Kd.R_drew)); exact Kd.R_mono HO_16.out (fun _ hk => hk.1)⟩, ⟨by repeat (first | (with_reducible first | exact HB.out | apply below_alloc | apply pw_below_drewN | apply below_drew1) | exact HB.out)⟩⟩
                      case round =>
                        clear H'
                        try clear c1
                        try clear c2
                        try clear p2
                        try clear c3
                        try clear c4
                        try clear c6
                        try clear p6
                        try clear c7
                        try clear c8
                        try clear c9
                        try clear p9
                        try clear q9
                        try clear hx9
                        try clear hf9
                        try clear c21
                        try clear c22
                        try clear c22b0
                        try clear c22b1
                        try clear c24
                        try clear c25
                        try clear c25b0
                        try clear c25b1
                        try clear c27
                        try clear c28
                        try clear c28b0
                        try clear c28b1
                        try clear c30
                        try clear c31
                        try clear c33
                        try clear c34
                        try clear c35
                        try clear c36
                        try clear c37
                        try clear c39
                        try clear c40
                        try clear c62
                        try clear p64
                        try clear c66
                        try clear c66b0
                        try clear c66b1
                        try clear c70
                        try clear c89
                        try clear c90
                        try clear c90b0
                        try clear c91
                        try clear c91b0
                        try clear c92
                        try clear p92
                        try clear q92
                        try clear hx92
                        try clear hf92
                        try clear c94
                        try clear hx94
                        try clear hf94
                        try clear hx92_0
                        try clear hx92_1
                        try clear hx92_2
                        try clear hx94_0
                        try clear p2
                        try clear p92
                        try clear q92
                        obtain ⟨x16_4, x21_4, rfl, HA, HK4, HO_7, HO_16, HB⟩ := hrel
                        cases gk with
                        | zero => exact absurd HA.out (by simp [musterlaw13_NodesTells.l1])
                        | succ k4 =>
                          have H := HA.out
                          clear HA
                          simp only [musterlaw13_NodesTells.l1] at H
                          by_cases c97 : x21_4 < (x16_4.length : Int)
                          · rw [if_pos c97] at H
                            have c97b0 : decide (x21_4 < (x16_4.length : Int)) = true := decide_eq_true c97
                            clear c97
                            by_cases c98 : 0 ≤ x21_4
                            · rw [if_pos c98] at H
                              have c98b0 : decide (0 ≤ x21_4) = true := decide_eq_true c98
                              clear c98
                              obtain ⟨y286, hy286⟩ : ∃ y_ : List (S55), y_ = (x16_4.set (x21_4 : Int).toNat (⟨99, (rd_T55 x16_4 x21_4).f1, (rd_T55 x16_4 x21_4).f2⟩ : S55)) := ⟨_, rfl⟩
                              replace H : (musterlaw13_NodesTells.l1 k4 l1 t242 y286 (wrap64 (x21_4 + 1))) = some r := by first | (rw [hy286]; with_reducible exact H) | (have H2_ := (Option.bind_some _ _).symm.trans H; rw [hy286]; with_reducible exact H2_) | (have H2_ := (Option.bind_some _ _).symm.trans H; with_reducible exact H2_) | with_reducible exact H | (rw [hy286]; exact H) | exact H
                              have Ny286 := Aside0.mk hy286
                              clear hy286
                              have H' := Aside0.mk H
                              clear H
                              obtain ⟨Ao100, co100, eo100⟩ := Kd.R_slice HO_16.out
                              subst eo100
                              have p99 : 0 ≤ (x21_4 : Int) := of_decide_eq_true (by first | (with_reducible assumption) | assumption)
                              have q99 : (x21_4 : Int) < ((x16_4.length : Int) : Int) := of_decide_eq_true (by first | (with_reducible assumption) | assumption)
                              obtain ⟨go99, co99, eo99, gb99, gl99, cl99, HG99⟩ := Kd.R_form HO_16.out (by omega)
                              (first | cases eo99 | (injection eo99 with ea_ en_ ec_; (first | subst ea_ | (injection ea_ with ea_; subst ea_)); subst ec_; clear en_))
                              have GB99 := Aside0.mk gb99
                              have GG99 := Aside0.mk HG99
                              clear gb99 gl99 HG99
                              obtain ⟨ce99, hcl99, hM99, hcc99, hfr99⟩ := Kd.R_elem HO_16.out z55 (x21_4 : Int) p99 q99
                              obtain rfl := k55_openM hM99
                              have hx99_0 : wr.cell? ⟨go99, (x21_4 : Int).toNat * 3, none⟩ = some (.int .i64 ((rd_T55 x16_4 x21_4).f0)) := hcc99 0 _ rfl
                              have hx99_1 : wr.cell? ⟨go99, (x21_4 : Int).toNat * 3 + 1, none⟩ = some (.bool ((rd_T55 x16_4 x21_4).f1)) := hcc99 1 _ rfl
                              have hx99_2 : wr.cell? ⟨go99, (x21_4 : Int).toNat * 3 + 2, none⟩ = some (.int .i64 ((rd_T55 x16_4 x21_4).f2)) := hcc99 2 _ rfl
                              have hf99_0 : wr.frozen? ⟨go99, (x21_4 : Int).toNat * 3, none⟩ = false := hfr99 0
                              have hf99_1 : wr.frozen? ⟨go99, (x21_4 : Int).toNat * 3 + 1, none⟩ = false := hfr99 1
                              have hf99_2 : wr.frozen? ⟨go99, (x21_4 : Int).toNat * 3 + 2, none⟩ = false := hfr99 2
                              clear hcl99 hcc99 hfr99 hM99
                              replace p99 := eq_true p99
                              replace q99 := eq_true q99
                              have HX101 := Aside0.mk (show Kd.R k55 55 wr w.heap.size (fun k_ => some k_ ≠ (.slice Ao15 t242.length co15 : Value).ownBlock) (.slice (some ⟨go99, 0, none⟩) x16_4.length co100) x16_4 from (by (with_reducible repeat (first | apply Kd.R_alloc | apply Kd.R_drewN | apply Kd.R_drew)); exact HO_16.out))
                              obtain ⟨ce101, hcl101, hM101, hcc101, hfr101⟩ := Kd.R_elem HX101.out z55 (x21_4 : Int) (of_decide_eq_true (by first | (with_reducible assumption) | assumption)) (by have h_ : (x21_4 : Int) < ((x16_4.length : Int) : Int) := of_decide_eq_true (by first | (with_reducible assumption) | assumption); first | exact h_ | (have e_ := (Kd.R_reads' HO_16.out).1; omega) | simpa using h_)
                              obtain rfl := k55_openM hM101
                              have HP101 := Kd.R_seg HX101.out (x21_4 : Int) (of_decide_eq_true (by first | (with_reducible assumption) | assumption)) (by have h_ : (x21_4 : Int) < ((x16_4.length : Int) : Int) := of_decide_eq_true (by first | (with_reducible assumption) | assumption); first | exact h_ | (have e_ := (Kd.R_reads' HO_16.out).1; omega) | simpa using h_) (seg := [.int .i64 99]) (j := 0) hcl101 hcc101 (show 1 ≤ 3 from by decide) (x' := (⟨99, (rd_T55 x16_4 x21_4).f1, (rd_T55 x16_4 x21_4).f2⟩ : S55)) (k55_mkM _ _ _ (⟨99, (rd_T55 x16_4 x21_4).f1, (rd_T55 x16_4 x21_4).f2⟩ : S55) ) (fun _ hk => hk)
                              have hx101_0 := hcc101 0 _ rfl
                              (try simp only [show (k55).sz = 3 from rfl, Nat.mul_one, Nat.add_zero] at hx101_0)
                              have hf101_0 := hfr101 0
                              (try simp only [show (k55).sz = 3 from rfl, Nat.mul_one, Nat.add_zero] at hf101_0)
                              clear hcl101 hcc101 hfr101 hM101
                              go_wp2_with (first | ((with_reducible refine gate_store (t := 3) (p := 148) rfl ?_); refine store_event (t := 3) (p := 148) (v := ?vo_w102) (w1 := (wr.setCell ⟨go99, (x21_4 : Int).toNat * 3, none⟩ (.int .i64 99))) ?hg ?ho ?hn ?hr ?_; (case ho => rfl); (case hg => rfl); (case hn => rfl); (case hr => first | (go_simp; done) | (go_simp; rfl)); intro w102 hw; have hg : wr.grownBy w102 (some go99) := (by rw [hw]; exact HP101.2); have hp_ : Kd.R k55 55 w102 w.heap.size (fun k_ => some k_ ≠ (.slice Ao15 t242.length co15 : Value).ownBlock) (.slice (some ⟨go99, 0, none⟩) x16_4.length co100) y286 := (by rw [hw, Ny286.out]; exact HP101.1); clear HP101; have n0_ := Aside0.mk (Kd.R_after (v := (.slice (some ⟨go99, 0, none⟩) x16_4.length co100)) (v1 := (.slice (some ⟨go99, 0, none⟩) x16_4.length co100)) (ok := (fun _ => True)) (by (with_reducible repeat (first | apply Kd.R_alloc | apply Kd.R_drewN | apply Kd.R_drew)); exact Kd.R_mono HO_7.out (fun _ hk => ⟨trivial, hk⟩)) hg (.inl rfl)); have n1_ := Aside0.mk (hp_); have n2_ := Aside0.mk ((by rw [hw]; exact below_set (HB.out) GB99.out : Below w.heap.size w w102)); clear HO_7; clear HO_16; clear HB; have HO_7 := n0_; have HO_16 := n1_; have HB := n2_; clear n0_ n1_ n2_; clear hg hw hp_))
                              go_roundg k4
                              case measure => have := HJ10.out; have := HJ62.out; have := HK3.out; have := HK4.out; omega
                              case rel => exact ⟨(y286), (wrap64 (x21_4 + 1)), (by first | rfl | (simp; done) | (simp [*]; done)), H', ⟨by have := HJ10.out; have := HJ62.out; have := HK3.out; have := HK4.out; omega⟩, ⟨by (with_reducible repeat (first | apply Kd.R_alloc | apply Kd.R_drewN | apply Kd.R_drew)); exact Kd.R_mono HO_7.out (fun _ hk => hk.2)⟩, ⟨by (with_reducible repeat (first | apply Kd.R_alloc | apply Kd.R_drewN | apply Kd.R_drew)); exact HO_16.out⟩, ⟨by repeat (first | (with_reducible first | exact HB.out | apply below_alloc | apply pw_below_drewN | apply below_drew1) | exact HB.out)⟩⟩
                            · rw [if_neg c98] at H
                              exact absurd H (by simp)
                          · rw [if_neg c97] at H
                            have c97b0 : decide (x21_4 < (x16_4.length : Int)) = false := decide_eq_false c97
                            clear c97
                            replace H := Option.bind_eq_some_iff.mp H
                            obtain ⟨t287, A1030, H⟩ := H
                            replace H : (if t287 = true then ((musterlaw13_awake.f k4).bind fun t288 => (some t288)) else (some false)) = some r := H
                            have A103 := Aside0.mk A1030
                            clear A1030
                            by_cases c104 : t287 = true
                            · subst c104
                              have H1 : ((musterlaw13_awake.f k4).bind fun t288 => (some t288)) = some r := by rw [if_pos rfl] at H; exact H
                              clear H
                              have H := H1
                              clear H1
                              replace H := Option.bind_eq_some_iff.mp H
                              obtain ⟨t288, A1050, H⟩ := H
                              replace H : (some t288) = some r := H
                              have A105 := Aside0.mk A1050
                              clear A1050
                              obtain rfl := Option.some.inj H
                              obtain ⟨Ao106, co106, eo106⟩ := Kd.R_slice HO_16.out
                              subst eo106
                              go_wp2_with (first | ((with_reducible refine gate_callee (f := 37) rfl ?_); refine goesL_ (some 151) rfl rfl Try.func37 (by kernel_rfl) rfl #[.slice Ao15 t242.length co15, .slice A1 l1.length c1] rfl (by (try simp only [List.map_toArray, List.map_cons, List.map_nil]); first | done | rfl | (simp only [List.length_drop, List.length_take]; rfl)) ?_; (with_reducible refine (musterkit_SameNodes.calls k4 _ _ t242 _ _ l1 true _ ?side1 ?side2 ?side3 ?side4 A103.out).mono ?_); (case side1 => repeat (first | exact (Kd.R_reads' HO_7.out).2.2 | (with_reducible refine Kd.C_alloc ?_ _) | (with_reducible refine Kd.C_drewN ?_ _) | (with_reducible refine Kd.C_drew ?_))); (case side2 => exact (Kd.R_reads' HO_7.out).2.1); (case side3 => repeat (first | exact (Kd.C_below HR1.out HB.out) | (with_reducible refine Kd.C_alloc ?_ _) | (with_reducible refine Kd.C_drewN ?_ _) | (with_reducible refine Kd.C_drew ?_))); (case side4 => exact HC1.out); rintro e w' ⟨rfl, ⟨nd, rfl⟩⟩; refine ⟨_, rfl, ?_⟩) | (go_at_call 29; (with_reducible refine (musterlaw13_awake.calls k4  t288 _ A105.out).mono ?_); rintro e w107 ⟨rfl, hb⟩; have n0_ := Aside0.mk (Kd.R_below (by (with_reducible repeat (first | apply Kd.R_alloc | apply Kd.R_drewN | apply Kd.R_drew)); exact HO_7.out) hb); have n1_ := Aside0.mk (Kd.R_below (by (with_reducible repeat (first | apply Kd.R_alloc | apply Kd.R_drewN | apply Kd.R_drew)); exact HO_16.out) hb); have n2_ := Aside0.mk (below_step (by repeat (first | (with_reducible first | exact HB.out | apply below_alloc | apply pw_below_drewN | apply below_drew1) | exact HB.out)) hb); clear HO_7; clear HO_16; clear HB; have HO_7 := n0_; have HO_16 := n1_; have HB := n2_; clear n0_ n1_ n2_; (try clear hb); (try clear hb2); (try clear hk); (try clear hi)))
                              go_ret
                              exact ⟨by first | rfl | (simp [errW_none, errW_some] <;> rfl) | (simp [*, errW_none, errW_some] <;> rfl), by repeat (first | (with_reducible first | exact HB.out | apply below_alloc | apply pw_below_drewN | apply below_drew1) | exact HB.out)⟩
                            · replace c104 := Bool.eq_false_iff.mpr c104
                              subst c104
                              have H1 : (some false) = some r := by rw [if_neg (show ¬ (false = true) by decide)] at H; exact H
                              clear H
                              have H := H1
                              clear H1
                              obtain rfl := Option.some.inj H
                              obtain ⟨Ao108, co108, eo108⟩ := Kd.R_slice HO_16.out
                              subst eo108
                              go_wp2_with (first | ((with_reducible refine gate_callee (f := 37) rfl ?_); refine goesL_ (some 151) rfl rfl Try.func37 (by kernel_rfl) rfl #[.slice Ao15 t242.length co15, .slice A1 l1.length c1] rfl (by (try simp only [List.map_toArray, List.map_cons, List.map_nil]); first | done | rfl | (simp only [List.length_drop, List.length_take]; rfl)) ?_; (with_reducible refine (musterkit_SameNodes.calls k4 _ _ t242 _ _ l1 false _ ?side1 ?side2 ?side3 ?side4 A103.out).mono ?_); (case side1 => repeat (first | exact (Kd.R_reads' HO_7.out).2.2 | (with_reducible refine Kd.C_alloc ?_ _) | (with_reducible refine Kd.C_drewN ?_ _) | (with_reducible refine Kd.C_drew ?_))); (case side2 => exact (Kd.R_reads' HO_7.out).2.1); (case side3 => repeat (first | exact (Kd.C_below HR1.out HB.out) | (with_reducible refine Kd.C_alloc ?_ _) | (with_reducible refine Kd.C_drewN ?_ _) | (with_reducible refine Kd.C_drew ?_))); (case side4 => exact HC1.out); rintro e w' ⟨rfl, ⟨nd, rfl⟩⟩; refine ⟨_, rfl, ?_⟩))
                              go_ret
                              exact ⟨by first | rfl | (simp [errW_none, errW_some] <;> rfl) | (simp [*, errW_none, errW_some] <;> rfl), by repeat (first | (with_reducible first | exact HB.out | apply below_alloc | apply pw_below_drewN | apply below_drew1) | exact HB.out)⟩

end Go.Proofs.Ythcikldhlohjbaa.PN
