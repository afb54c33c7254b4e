-- printed by wprint.py (this session's program over the kit's print.py)
import Derived.Test.YthcikldhlohjbaaPTx0
import Derived.Test.YthcikldhlohjbaaPTx2
import Derived.Test.YthcikldhlohjbaaPTx3
import Derived.Test.YthcikldhlohjbaaPTx5
import Derived.Test.YthcikldhlohjbaaPTx6
import Derived.Test.YthcikldhlohjbaaPTx8
import Derived.Test.YthcikldhlohjbaaPTx9
import Derived.Test.YthcikldhlohjbaaPTx10
import Derived.Test.YthcikldhlohjbaaPTx11
import Derived.Test.YthcikldhlohjbaaPTx12
import Derived.Test.YthcikldhlohjbaaPTx15
import Derived.Test.YthcikldhlohjbaaPTx17
import Derived.Test.YthcikldhlohjbaaPTx19
import Derived.Test.YthcikldhlohjbaaPTx20
import Derived.Test.YthcikldhlohjbaaPTx21
import Derived.Test.YthcikldhlohjbaaPTx22
import Derived.Test.YthcikldhlohjbaaPTx23
namespace Go.Proofs.Ythcikldhlohjbaa.PT
open Go.RowKit Go.Proofs.YthcikldhlohjbaaW.PrintWords Go.Proofs.YthcikldhlohjbaaW.PrintLast Go.Proofs.YthcikldhlohjbaaW.PrintMore
attribute [local go_sem] max2_int min2_int max_two min_two max_three min_three max_four min_four   -- for this text's walks alone
set_option linter.unusedVariables false
set_option linter.unusedSimpArgs false

/-! ### musterlaw14_TreeTells: function 11 -/
mutual
def musterlaw14_TreeTells.j0 : Nat → List (S94) → List (S94) → List ByteArray → List ByteArray → List ByteArray → List ByteArray → List (S94) → List (S94) → Bool → Option (Bool)
 | 0, _, _, _, _, _, _, _, _, _ => none
 | k + 1, x0, x7, x8, x10, x12, x14, x16, x18, x118 => if x118 = true then (some false) else ((musterkit_SameTexts.f k x8 x10).bind fun t254 => (if t254 = true then ((musterkit_SameTexts.f k x12 x14).bind fun t255 => (if t255 = true then ((musterkit_SameAccounts.f k x16 x18).bind fun t256 => (musterlaw14_TreeTells.j1 k x0 x7 x16 (!t256))) else (musterlaw14_TreeTells.j1 k x0 x7 x16 true))) else (musterlaw14_TreeTells.j1 k x0 x7 x16 true)))
def musterlaw14_TreeTells.j1 : Nat → List (S94) → List (S94) → List (S94) → Bool → Option (Bool)
 | 0, _, _, _, _ => none
 | k + 1, x0, x7, x16, x134 => if x134 = true then (some false) else (musterlaw14_TreeTells.l0 k x0 x7 x16 0)
def musterlaw14_TreeTells.l0 : Nat → List (S94) → List (S94) → List (S94) → Int → Option (Bool)
 | 0, _, _, _, _ => none
 | k + 1, x0, x7, x16, x24 => if x24 < (x16.length : Int) then (if 0 ≤ x24 then (musterlaw14_TreeTells.l0 k x0 x7 (x16.set (x24 : Int).toNat (⟨(⟨#[115, 112, 111, 105, 108, 116]⟩ : ByteArray), (rd_T94 x16 x24).f1, (rd_T94 x16 x24).f2⟩ : S94)) (wrap64 (x24 + 1))) else (none)) else ((musterkit_SameAccounts.f k x7 x0).bind fun t258 => (if t258 = true then ((musterlaw14_awake.f k).bind fun t259 => (some t259)) else (some false)))
end
def musterlaw14_TreeTells.f (k : Nat) (l0 : List (S94)) (a1 : ByteArray) (a2 : Int) : Option (Bool) := (musterkit_CopyAccounts.f k l0).bind fun t219 => ((tree_Path.f k t219 a1).bind fun bt222 => ((musterref14_Path.f k l0 a1).bind fun bt226 => ((tree_Below.f k t219 a1).bind fun bt230 => ((musterref14_Below.f k l0 a1).bind fun bt234 => ((tree_Limit.f k t219 a1 a2).bind fun bt238 => ((musterref14_Limit.f k l0 a1 a2).bind fun bt242 => ((tree_Find.f t219 a1).bind fun bt246 => ((musterref14_Find.f k l0 a1).bind fun bt248 => (if bt222.2 = bt226.2 then (if bt230.2 = bt234.2 then (if bt238.2 = bt242.2 then (if bt246.1 = bt248.1 then (if (bt246.2 != bt248.2) = true then (musterlaw14_TreeTells.j0 k l0 t219 bt222.1 bt226.1 bt230.1 bt234.1 bt238.1 bt242.1 true) else ((tree_Right.f t219).bind fun t250 => ((musterref14_Right.f l0).bind fun t251 => (if (t250 != t251) = true then (musterlaw14_TreeTells.j0 k l0 t219 bt222.1 bt226.1 bt230.1 bt234.1 bt238.1 bt242.1 true) else ((tree_Name.f a1).bind fun t252 => ((musterref14_Name.f k a1).bind fun t253 => (musterlaw14_TreeTells.j0 k l0 t219 bt222.1 bt226.1 bt230.1 bt234.1 bt238.1 bt242.1 (t252 != t253)))))))) else (musterlaw14_TreeTells.j0 k l0 t219 bt222.1 bt226.1 bt230.1 bt234.1 bt238.1 bt242.1 true)) else (musterlaw14_TreeTells.j0 k l0 t219 bt222.1 bt226.1 bt230.1 bt234.1 bt238.1 bt242.1 true)) else (musterlaw14_TreeTells.j0 k l0 t219 bt222.1 bt226.1 bt230.1 bt234.1 bt238.1 bt242.1 true)) else (musterlaw14_TreeTells.j0 k l0 t219 bt222.1 bt226.1 bt230.1 bt234.1 bt238.1 bt242.1 true))))))))))
theorem musterlaw14_TreeTells.mono_l : ∀ k, (∀ y0 y1 y2 y3 y4 y5 y6 y7 y8, LeO (musterlaw14_TreeTells.j0 k y0 y1 y2 y3 y4 y5 y6 y7 y8) (musterlaw14_TreeTells.j0 (k + 1) y0 y1 y2 y3 y4 y5 y6 y7 y8)) ∧ (∀ y0 y1 y2 y3, LeO (musterlaw14_TreeTells.j1 k y0 y1 y2 y3) (musterlaw14_TreeTells.j1 (k + 1) y0 y1 y2 y3)) ∧ (∀ y0 y1 y2 y3, LeO (musterlaw14_TreeTells.l0 k y0 y1 y2 y3) (musterlaw14_TreeTells.l0 (k + 1) y0 y1 y2 y3))
 | 0 => ⟨fun _ _ _ _ _ _ _ _ _ r h => by simp [musterlaw14_TreeTells.j0] at h, fun _ _ _ _ r h => by simp [musterlaw14_TreeTells.j1] at h, fun _ _ _ _ r h => by simp [musterlaw14_TreeTells.l0] at h⟩
 | k + 1 => by
  obtain ⟨ih0, ih1, ih2⟩ := musterlaw14_TreeTells.mono_l k
  refine ⟨?_, ?_, ?_⟩
  ·intro y0 y1 y2 y3 y4 y5 y6 y7 y8
   unfold musterlaw14_TreeTells.j0
   repeat' first
   | (with_reducible exact ih0 _ _ _ _ _ _ _ _ _)
   | (with_reducible exact ih1 _ _ _ _)
   | (with_reducible exact ih2 _ _ _ _)
   | (with_reducible exact musterkit_CopyAccounts.mono _ _)
   | (with_reducible exact musterkit_SameAccounts.mono _ _ _)
   | (with_reducible exact musterkit_SameTexts.mono _ _ _)
   | (with_reducible exact musterlaw14_awake.mono _)
   | (with_reducible exact musterref14_Below.mono _ _ _)
   | (with_reducible exact musterref14_Find.mono _ _ _)
   | (with_reducible exact musterref14_Limit.mono _ _ _ _)
   | (with_reducible exact musterref14_Name.mono _ _)
   | (with_reducible exact musterref14_Path.mono _ _ _)
   | (with_reducible exact tree_Below.mono _ _ _)
   | (with_reducible exact tree_Limit.mono _ _ _ _)
   | (with_reducible exact tree_Path.mono _ _ _)
   | (with_reducible exact LeO.refl _)
   | (with_reducible exact LeO.none _)
   | (with_reducible refine LeO.ite ?_ ?_)
   | (with_reducible refine LeO.bind ?_ (fun _ => ?_))
   | exact ih0 _ _ _ _ _ _ _ _ _
   | exact ih1 _ _ _ _
   | exact ih2 _ _ _ _
   | exact musterkit_CopyAccounts.mono _ _
   | exact musterkit_SameAccounts.mono _ _ _
   | exact musterkit_SameTexts.mono _ _ _
   | exact musterlaw14_awake.mono _
   | exact musterref14_Below.mono _ _ _
   | exact musterref14_Find.mono _ _ _
   | exact musterref14_Limit.mono _ _ _ _
   | exact musterref14_Name.mono _ _
   | exact musterref14_Path.mono _ _ _
   | exact tree_Below.mono _ _ _
   | exact tree_Limit.mono _ _ _ _
   | exact tree_Path.mono _ _ _
   | exact LeO.none _
   | refine LeO.ite ?_ ?_
   | refine LeO.bind ?_ (fun _ => ?_)
  ·intro y0 y1 y2 y3
   unfold musterlaw14_TreeTells.j1
   repeat' first
   | (with_reducible exact ih0 _ _ _ _ _ _ _ _ _)
   | (with_reducible exact ih1 _ _ _ _)
   | (with_reducible exact ih2 _ _ _ _)
   | (with_reducible exact musterkit_CopyAccounts.mono _ _)
   | (with_reducible exact musterkit_SameAccounts.mono _ _ _)
   | (with_reducible exact musterkit_SameTexts.mono _ _ _)
   | (with_reducible exact musterlaw14_awake.mono _)
   | (with_reducible exact musterref14_Below.mono _ _ _)
   | (with_reducible exact musterref14_Find.mono _ _ _)
   | (with_reducible exact musterref14_Limit.mono _ _ _ _)
   | (with_reducible exact musterref14_Name.mono _ _)
   | (with_reducible exact musterref14_Path.mono _ _ _)
   | (with_reducible exact tree_Below.mono _ _ _)
   | (with_reducible exact tree_Limit.mono _ _ _ _)
   | (with_reducible exact tree_Path.mono _ _ _)
   | (with_reducible exact LeO.refl _)
   | (with_reducible exact LeO.none _)
   | (with_reducible refine LeO.ite ?_ ?_)
   | (with_reducible refine LeO.bind ?_ (fun _ => ?_))
   | exact ih0 _ _ _ _ _ _ _ _ _
   | exact ih1 _ _ _ _
   | exact ih2 _ _ _ _
   | exact musterkit_CopyAccounts.mono _ _
   | exact musterkit_SameAccounts.mono _ _ _
   | exact musterkit_SameTexts.mono _ _ _
   | exact musterlaw14_awake.mono _
   | exact musterref14_Below.mono _ _ _
   | exact musterref14_Find.mono _ _ _
   | exact musterref14_Limit.mono _ _ _ _
   | exact musterref14_Name.mono _ _
   | exact musterref14_Path.mono _ _ _
   | exact tree_Below.mono _ _ _
   | exact tree_Limit.mono _ _ _ _
   | exact tree_Path.mono _ _ _
   | exact LeO.none _
   | refine LeO.ite ?_ ?_
   | refine LeO.bind ?_ (fun _ => ?_)
  ·intro y0 y1 y2 y3
   unfold musterlaw14_TreeTells.l0
   repeat' first
   | (with_reducible exact ih0 _ _ _ _ _ _ _ _ _)
   | (with_reducible exact ih1 _ _ _ _)
   | (with_reducible exact ih2 _ _ _ _)
   | (with_reducible exact musterkit_CopyAccounts.mono _ _)
   | (with_reducible exact musterkit_SameAccounts.mono _ _ _)
   | (with_reducible exact musterkit_SameTexts.mono _ _ _)
   | (with_reducible exact musterlaw14_awake.mono _)
   | (with_reducible exact musterref14_Below.mono _ _ _)
   | (with_reducible exact musterref14_Find.mono _ _ _)
   | (with_reducible exact musterref14_Limit.mono _ _ _ _)
   | (with_reducible exact musterref14_Name.mono _ _)
   | (with_reducible exact musterref14_Path.mono _ _ _)
   | (with_reducible exact tree_Below.mono _ _ _)
   | (with_reducible exact tree_Limit.mono _ _ _ _)
   | (with_reducible exact tree_Path.mono _ _ _)
   | (with_reducible exact LeO.refl _)
   | (with_reducible exact LeO.none _)
   | (with_reducible refine LeO.ite ?_ ?_)
   | (with_reducible refine LeO.bind ?_ (fun _ => ?_))
   | exact ih0 _ _ _ _ _ _ _ _ _
   | exact ih1 _ _ _ _
   | exact ih2 _ _ _ _
   | exact musterkit_CopyAccounts.mono _ _
   | exact musterkit_SameAccounts.mono _ _ _
   | exact musterkit_SameTexts.mono _ _ _
   | exact musterlaw14_awake.mono _
   | exact musterref14_Below.mono _ _ _
   | exact musterref14_Find.mono _ _ _
   | exact musterref14_Limit.mono _ _ _ _
   | exact musterref14_Name.mono _ _
   | exact musterref14_Path.mono _ _ _
   | exact tree_Below.mono _ _ _
   | exact tree_Limit.mono _ _ _ _
   | exact tree_Path.mono _ _ _
   | exact LeO.none _
   | refine LeO.ite ?_ ?_
   | refine LeO.bind ?_ (fun _ => ?_)
theorem musterlaw14_TreeTells.mono : ∀ a0 a1 a2 k, LeO (musterlaw14_TreeTells.f k a0 a1 a2) (musterlaw14_TreeTells.f (k + 1) a0 a1 a2) := by
 intro a0 a1 a2 k
 obtain ⟨ih0, ih1, ih2⟩ := musterlaw14_TreeTells.mono_l k
 unfold musterlaw14_TreeTells.f
 repeat' first
   | (with_reducible exact ih0 _ _ _ _ _ _ _ _ _)
   | (with_reducible exact ih1 _ _ _ _)
   | (with_reducible exact ih2 _ _ _ _)
   | (with_reducible exact musterkit_CopyAccounts.mono _ _)
   | (with_reducible exact musterkit_SameAccounts.mono _ _ _)
   | (with_reducible exact musterkit_SameTexts.mono _ _ _)
   | (with_reducible exact musterlaw14_awake.mono _)
   | (with_reducible exact musterref14_Below.mono _ _ _)
   | (with_reducible exact musterref14_Find.mono _ _ _)
   | (with_reducible exact musterref14_Limit.mono _ _ _ _)
   | (with_reducible exact musterref14_Name.mono _ _)
   | (with_reducible exact musterref14_Path.mono _ _ _)
   | (with_reducible exact tree_Below.mono _ _ _)
   | (with_reducible exact tree_Limit.mono _ _ _ _)
   | (with_reducible exact tree_Path.mono _ _ _)
   | (with_reducible exact LeO.refl _)
   | (with_reducible exact LeO.none _)
   | (with_reducible refine LeO.ite ?_ ?_)
   | (with_reducible refine LeO.bind ?_ (fun _ => ?_))
   | exact ih0 _ _ _ _ _ _ _ _ _
   | exact ih1 _ _ _ _
   | exact ih2 _ _ _ _
   | exact musterkit_CopyAccounts.mono _ _
   | exact musterkit_SameAccounts.mono _ _ _
   | exact musterkit_SameTexts.mono _ _ _
   | exact musterlaw14_awake.mono _
   | exact musterref14_Below.mono _ _ _
   | exact musterref14_Find.mono _ _ _
   | exact musterref14_Limit.mono _ _ _ _
   | exact musterref14_Name.mono _ _
   | exact musterref14_Path.mono _ _ _
   | exact tree_Below.mono _ _ _
   | exact tree_Limit.mono _ _ _ _
   | exact tree_Path.mono _ _ _
   | exact LeO.none _
   | refine LeO.ite ?_ ?_
   | refine LeO.bind ?_ (fun _ => ?_)
def cutTo {α : Type} (n : Nat) (l : List α) : List α := if n < l.length then l.take n else l
theorem cutTo_len {α : Type} (n : Nat) (l : List α) : (cutTo n l).length = if n < l.length then n else l.length := by unfold cutTo; split <;> simp; omega
theorem cutTo_le {α : Type} (n : Nat) (l : List α) : (cutTo n l).length ≤ l.length := by rw [cutTo_len]; split <;> omega
theorem cutTo_C {α : Type} {d : Kd α} {w : World} {A : Option Addr} {n : Nat} {l : List α} (h : d.C w A l.length l) : d.C w A (cutTo n l).length (cutTo n l) := by
 unfold cutTo
 split
 ·exact Kd.C_take h (by omega)
 ·exact h
set_option maxHeartbeats 8000000 in
set_option maxRecDepth 100000 in
theorem musterlaw14_TreeTells.calls (k : Nat) (A0 : Option Addr) (c0 : Nat) (y0 : List (S94)) (a1 : ByteArray) (a2 : Int) (r : Bool) (w : World) (hq0 : Kd.C k94 w A0 y0.length y0) (hy0 : y0.length ≤ c0) (h' : musterlaw14_TreeTells.f k (cutTo 100 y0) a1 a2 = some r) :
  Calls Try.prog 11 #[.slice A0 y0.length c0, .string a1, .int .i64 a2] w fun e w' => e = .returned (.bool r) ∧ Below w.heap.size w w' := by
 obtain ⟨l0, HL, hr0, hc0, h⟩ : ∃ l0, Aside0 (l0 = cutTo 100 y0) ∧ Kd.C k94 w A0 l0.length l0 ∧ l0.length ≤ c0 ∧ musterlaw14_TreeTells.f k l0 a1 a2 = some r := ⟨_, ⟨rfl⟩, cutTo_C hq0, Nat.le_trans (cutTo_le 100 y0) hy0, h'⟩
 have HY := Aside0.mk hq0
 have HYc := Aside0.mk hy0
 have HYl := Aside0.mk hq0.2.1
 clear hq0 hy0 h'
 have HR0 := Aside0.mk hr0
 have HC0 := Aside0.mk hc0
 clear hr0 hc0
 have HB := Aside0.mk (Below.refl w.heap.size w)
 have H : ((musterkit_CopyAccounts.f k l0).bind fun t219 => ((tree_Path.f k t219 a1).bind fun bt222 => ((musterref14_Path.f k l0 a1).bind fun bt226 => ((tree_Below.f k t219 a1).bind fun bt230 => ((musterref14_Below.f k l0 a1).bind fun bt234 => ((tree_Limit.f k t219 a1 a2).bind fun bt238 => ((musterref14_Limit.f k l0 a1 a2).bind fun bt242 => ((tree_Find.f t219 a1).bind fun bt246 => ((musterref14_Find.f k l0 a1).bind fun bt248 => (if bt222.2 = bt226.2 then (if bt230.2 = bt234.2 then (if bt238.2 = bt242.2 then (if bt246.1 = bt248.1 then (if (bt246.2 != bt248.2) = true then (musterlaw14_TreeTells.j0 k l0 t219 bt222.1 bt226.1 bt230.1 bt234.1 bt238.1 bt242.1 true) else ((tree_Right.f t219).bind fun t250 => ((musterref14_Right.f l0).bind fun t251 => (if (t250 != t251) = true then (musterlaw14_TreeTells.j0 k l0 t219 bt222.1 bt226.1 bt230.1 bt234.1 bt238.1 bt242.1 true) else ((tree_Name.f a1).bind fun t252 => ((musterref14_Name.f k a1).bind fun t253 => (musterlaw14_TreeTells.j0 k l0 t219 bt222.1 bt226.1 bt230.1 bt234.1 bt238.1 bt242.1 (t252 != t253)))))))) else (musterlaw14_TreeTells.j0 k l0 t219 bt222.1 bt226.1 bt230.1 bt234.1 bt238.1 bt242.1 true)) else (musterlaw14_TreeTells.j0 k l0 t219 bt222.1 bt226.1 bt230.1 bt234.1 bt238.1 bt242.1 true)) else (musterlaw14_TreeTells.j0 k l0 t219 bt222.1 bt226.1 bt230.1 bt234.1 bt238.1 bt242.1 true)) else (musterlaw14_TreeTells.j0 k l0 t219 bt222.1 bt226.1 bt230.1 bt234.1 bt238.1 bt242.1 true))))))))))) = some r := h
 clear h
 replace H := Option.bind_eq_some_iff.mp H
 obtain ⟨t219, A40, H⟩ := H
 replace H : ((tree_Path.f k t219 a1).bind fun bt222 => ((musterref14_Path.f k l0 a1).bind fun bt226 => ((tree_Below.f k t219 a1).bind fun bt230 => ((musterref14_Below.f k l0 a1).bind fun bt234 => ((tree_Limit.f k t219 a1 a2).bind fun bt238 => ((musterref14_Limit.f k l0 a1 a2).bind fun bt242 => ((tree_Find.f t219 a1).bind fun bt246 => ((musterref14_Find.f k l0 a1).bind fun bt248 => (if bt222.2 = bt226.2 then (if bt230.2 = bt234.2 then (if bt238.2 = bt242.2 then (if bt246.1 = bt248.1 then (if (bt246.2 != bt248.2) = true then (musterlaw14_TreeTells.j0 k l0 t219 bt222.1 bt226.1 bt230.1 bt234.1 bt238.1 bt242.1 true) else ((tree_Right.f t219).bind fun t250 => ((musterref14_Right.f l0).bind fun t251 => (if (t250 != t251) = true then (musterlaw14_TreeTells.j0 k l0 t219 bt222.1 bt226.1 bt230.1 bt234.1 bt238.1 bt242.1 true) else ((tree_Name.f a1).bind fun t252 => ((musterref14_Name.f k a1).bind fun t253 => (musterlaw14_TreeTells.j0 k l0 t219 bt222.1 bt226.1 bt230.1 bt234.1 bt238.1 bt242.1 (t252 != t253)))))))) else (musterlaw14_TreeTells.j0 k l0 t219 bt222.1 bt226.1 bt230.1 bt234.1 bt238.1 bt242.1 true)) else (musterlaw14_TreeTells.j0 k l0 t219 bt222.1 bt226.1 bt230.1 bt234.1 bt238.1 bt242.1 true)) else (musterlaw14_TreeTells.j0 k l0 t219 bt222.1 bt226.1 bt230.1 bt234.1 bt238.1 bt242.1 true)) else (musterlaw14_TreeTells.j0 k l0 t219 bt222.1 bt226.1 bt230.1 bt234.1 bt238.1 bt242.1 true)))))))))) = some r := H
 have A4 := Aside0.mk A40
 clear A40
 replace H := Option.bind_eq_some_iff.mp H
 obtain ⟨⟨t222, t223⟩, A50, H⟩ := H
 replace H : ((musterref14_Path.f k l0 a1).bind fun bt226 => ((tree_Below.f k t219 a1).bind fun bt230 => ((musterref14_Below.f k l0 a1).bind fun bt234 => ((tree_Limit.f k t219 a1 a2).bind fun bt238 => ((musterref14_Limit.f k l0 a1 a2).bind fun bt242 => ((tree_Find.f t219 a1).bind fun bt246 => ((musterref14_Find.f k l0 a1).bind fun bt248 => (if t223 = bt226.2 then (if bt230.2 = bt234.2 then (if bt238.2 = bt242.2 then (if bt246.1 = bt248.1 then (if (bt246.2 != bt248.2) = true then (musterlaw14_TreeTells.j0 k l0 t219 t222 bt226.1 bt230.1 bt234.1 bt238.1 bt242.1 true) else ((tree_Right.f t219).bind fun t250 => ((musterref14_Right.f l0).bind fun t251 => (if (t250 != t251) = true then (musterlaw14_TreeTells.j0 k l0 t219 t222 bt226.1 bt230.1 bt234.1 bt238.1 bt242.1 true) else ((tree_Name.f a1).bind fun t252 => ((musterref14_Name.f k a1).bind fun t253 => (musterlaw14_TreeTells.j0 k l0 t219 t222 bt226.1 bt230.1 bt234.1 bt238.1 bt242.1 (t252 != t253)))))))) else (musterlaw14_TreeTells.j0 k l0 t219 t222 bt226.1 bt230.1 bt234.1 bt238.1 bt242.1 true)) else (musterlaw14_TreeTells.j0 k l0 t219 t222 bt226.1 bt230.1 bt234.1 bt238.1 bt242.1 true)) else (musterlaw14_TreeTells.j0 k l0 t219 t222 bt226.1 bt230.1 bt234.1 bt238.1 bt242.1 true)) else (musterlaw14_TreeTells.j0 k l0 t219 t222 bt226.1 bt230.1 bt234.1 bt238.1 bt242.1 true))))))))) = some r := H
 have A5 := Aside0.mk A50
 clear A50
 replace H := Option.bind_eq_some_iff.mp H
 obtain ⟨⟨t226, t227⟩, A60, H⟩ := H
 replace H : ((tree_Below.f k t219 a1).bind fun bt230 => ((musterref14_Below.f k l0 a1).bind fun bt234 => ((tree_Limit.f k t219 a1 a2).bind fun bt238 => ((musterref14_Limit.f k l0 a1 a2).bind fun bt242 => ((tree_Find.f t219 a1).bind fun bt246 => ((musterref14_Find.f k l0 a1).bind fun bt248 => (if t223 = t227 then (if bt230.2 = bt234.2 then (if bt238.2 = bt242.2 then (if bt246.1 = bt248.1 then (if (bt246.2 != bt248.2) = true then (musterlaw14_TreeTells.j0 k l0 t219 t222 t226 bt230.1 bt234.1 bt238.1 bt242.1 true) else ((tree_Right.f t219).bind fun t250 => ((musterref14_Right.f l0).bind fun t251 => (if (t250 != t251) = true then (musterlaw14_TreeTells.j0 k l0 t219 t222 t226 bt230.1 bt234.1 bt238.1 bt242.1 true) else ((tree_Name.f a1).bind fun t252 => ((musterref14_Name.f k a1).bind fun t253 => (musterlaw14_TreeTells.j0 k l0 t219 t222 t226 bt230.1 bt234.1 bt238.1 bt242.1 (t252 != t253)))))))) else (musterlaw14_TreeTells.j0 k l0 t219 t222 t226 bt230.1 bt234.1 bt238.1 bt242.1 true)) else (musterlaw14_TreeTells.j0 k l0 t219 t222 t226 bt230.1 bt234.1 bt238.1 bt242.1 true)) else (musterlaw14_TreeTells.j0 k l0 t219 t222 t226 bt230.1 bt234.1 bt238.1 bt242.1 true)) else (musterlaw14_TreeTells.j0 k l0 t219 t222 t226 bt230.1 bt234.1 bt238.1 bt242.1 true)))))))) = some r := H
 have A6 := Aside0.mk A60
 clear A60
 replace H := Option.bind_eq_some_iff.mp H
 obtain ⟨⟨t230, t231⟩, A70, H⟩ := H
 replace H : ((musterref14_Below.f k l0 a1).bind fun bt234 => ((tree_Limit.f k t219 a1 a2).bind fun bt238 => ((musterref14_Limit.f k l0 a1 a2).bind fun bt242 => ((tree_Find.f t219 a1).bind fun bt246 => ((musterref14_Find.f k l0 a1).bind fun bt248 => (if t223 = t227 then (if t231 = bt234.2 then (if bt238.2 = bt242.2 then (if bt246.1 = bt248.1 then (if (bt246.2 != bt248.2) = true then (musterlaw14_TreeTells.j0 k l0 t219 t222 t226 t230 bt234.1 bt238.1 bt242.1 true) else ((tree_Right.f t219).bind fun t250 => ((musterref14_Right.f l0).bind fun t251 => (if (t250 != t251) = true then (musterlaw14_TreeTells.j0 k l0 t219 t222 t226 t230 bt234.1 bt238.1 bt242.1 true) else ((tree_Name.f a1).bind fun t252 => ((musterref14_Name.f k a1).bind fun t253 => (musterlaw14_TreeTells.j0 k l0 t219 t222 t226 t230 bt234.1 bt238.1 bt242.1 (t252 != t253)))))))) else (musterlaw14_TreeTells.j0 k l0 t219 t222 t226 t230 bt234.1 bt238.1 bt242.1 true)) else (musterlaw14_TreeTells.j0 k l0 t219 t222 t226 t230 bt234.1 bt238.1 bt242.1 true)) else (musterlaw14_TreeTells.j0 k l0 t219 t222 t226 t230 bt234.1 bt238.1 bt242.1 true)) else (musterlaw14_TreeTells.j0 k l0 t219 t222 t226 t230 bt234.1 bt238.1 bt242.1 true))))))) = some r := H
 have A7 := Aside0.mk A70
 clear A70
 replace H := Option.bind_eq_some_iff.mp H
 obtain ⟨⟨t234, t235⟩, A80, H⟩ := H
 replace H : ((tree_Limit.f k t219 a1 a2).bind fun bt238 => ((musterref14_Limit.f k l0 a1 a2).bind fun bt242 => ((tree_Find.f t219 a1).bind fun bt246 => ((musterref14_Find.f k l0 a1).bind fun bt248 => (if t223 = t227 then (if t231 = t235 then (if bt238.2 = bt242.2 then (if bt246.1 = bt248.1 then (if (bt246.2 != bt248.2) = true then (musterlaw14_TreeTells.j0 k l0 t219 t222 t226 t230 t234 bt238.1 bt242.1 true) else ((tree_Right.f t219).bind fun t250 => ((musterref14_Right.f l0).bind fun t251 => (if (t250 != t251) = true then (musterlaw14_TreeTells.j0 k l0 t219 t222 t226 t230 t234 bt238.1 bt242.1 true) else ((tree_Name.f a1).bind fun t252 => ((musterref14_Name.f k a1).bind fun t253 => (musterlaw14_TreeTells.j0 k l0 t219 t222 t226 t230 t234 bt238.1 bt242.1 (t252 != t253)))))))) else (musterlaw14_TreeTells.j0 k l0 t219 t222 t226 t230 t234 bt238.1 bt242.1 true)) else (musterlaw14_TreeTells.j0 k l0 t219 t222 t226 t230 t234 bt238.1 bt242.1 true)) else (musterlaw14_TreeTells.j0 k l0 t219 t222 t226 t230 t234 bt238.1 bt242.1 true)) else (musterlaw14_TreeTells.j0 k l0 t219 t222 t226 t230 t234 bt238.1 bt242.1 true)))))) = some r := H
 have A8 := Aside0.mk A80
 clear A80
 replace H := Option.bind_eq_some_iff.mp H
 obtain ⟨⟨t238, t239⟩, A90, H⟩ := H
 replace H : ((musterref14_Limit.f k l0 a1 a2).bind fun bt242 => ((tree_Find.f t219 a1).bind fun bt246 => ((musterref14_Find.f k l0 a1).bind fun bt248 => (if t223 = t227 then (if t231 = t235 then (if t239 = bt242.2 then (if bt246.1 = bt248.1 then (if (bt246.2 != bt248.2) = true then (musterlaw14_TreeTells.j0 k l0 t219 t222 t226 t230 t234 t238 bt242.1 true) else ((tree_Right.f t219).bind fun t250 => ((musterref14_Right.f l0).bind fun t251 => (if (t250 != t251) = true then (musterlaw14_TreeTells.j0 k l0 t219 t222 t226 t230 t234 t238 bt242.1 true) else ((tree_Name.f a1).bind fun t252 => ((musterref14_Name.f k a1).bind fun t253 => (musterlaw14_TreeTells.j0 k l0 t219 t222 t226 t230 t234 t238 bt242.1 (t252 != t253)))))))) else (musterlaw14_TreeTells.j0 k l0 t219 t222 t226 t230 t234 t238 bt242.1 true)) else (musterlaw14_TreeTells.j0 k l0 t219 t222 t226 t230 t234 t238 bt242.1 true)) else (musterlaw14_TreeTells.j0 k l0 t219 t222 t226 t230 t234 t238 bt242.1 true)) else (musterlaw14_TreeTells.j0 k l0 t219 t222 t226 t230 t234 t238 bt242.1 true))))) = some r := H
 have A9 := Aside0.mk A90
 clear A90
 replace H := Option.bind_eq_some_iff.mp H
 obtain ⟨⟨t242, t243⟩, A100, H⟩ := H
 replace H : ((tree_Find.f t219 a1).bind fun bt246 => ((musterref14_Find.f k l0 a1).bind fun bt248 => (if t223 = t227 then (if t231 = t235 then (if t239 = t243 then (if bt246.1 = bt248.1 then (if (bt246.2 != bt248.2) = true then (musterlaw14_TreeTells.j0 k l0 t219 t222 t226 t230 t234 t238 t242 true) else ((tree_Right.f t219).bind fun t250 => ((musterref14_Right.f l0).bind fun t251 => (if (t250 != t251) = true then (musterlaw14_TreeTells.j0 k l0 t219 t222 t226 t230 t234 t238 t242 true) else ((tree_Name.f a1).bind fun t252 => ((musterref14_Name.f k a1).bind fun t253 => (musterlaw14_TreeTells.j0 k l0 t219 t222 t226 t230 t234 t238 t242 (t252 != t253)))))))) else (musterlaw14_TreeTells.j0 k l0 t219 t222 t226 t230 t234 t238 t242 true)) else (musterlaw14_TreeTells.j0 k l0 t219 t222 t226 t230 t234 t238 t242 true)) else (musterlaw14_TreeTells.j0 k l0 t219 t222 t226 t230 t234 t238 t242 true)) else (musterlaw14_TreeTells.j0 k l0 t219 t222 t226 t230 t234 t238 t242 true)))) = some r := H
 have A10 := Aside0.mk A100
 clear A100
 replace H := Option.bind_eq_some_iff.mp H
 obtain ⟨⟨t246, t247⟩, A110, H⟩ := H
 replace H : ((musterref14_Find.f k l0 a1).bind fun bt248 => (if t223 = t227 then (if t231 = t235 then (if t239 = t243 then (if t246 = bt248.1 then (if (t247 != bt248.2) = true then (musterlaw14_TreeTells.j0 k l0 t219 t222 t226 t230 t234 t238 t242 true) else ((tree_Right.f t219).bind fun t250 => ((musterref14_Right.f l0).bind fun t251 => (if (t250 != t251) = true then (musterlaw14_TreeTells.j0 k l0 t219 t222 t226 t230 t234 t238 t242 true) else ((tree_Name.f a1).bind fun t252 => ((musterref14_Name.f k a1).bind fun t253 => (musterlaw14_TreeTells.j0 k l0 t219 t222 t226 t230 t234 t238 t242 (t252 != t253)))))))) else (musterlaw14_TreeTells.j0 k l0 t219 t222 t226 t230 t234 t238 t242 true)) else (musterlaw14_TreeTells.j0 k l0 t219 t222 t226 t230 t234 t238 t242 true)) else (musterlaw14_TreeTells.j0 k l0 t219 t222 t226 t230 t234 t238 t242 true)) else (musterlaw14_TreeTells.j0 k l0 t219 t222 t226 t230 t234 t238 t242 true))) = some r := H
 have A11 := Aside0.mk A110
 clear A110
 replace H := Option.bind_eq_some_iff.mp H
 obtain ⟨⟨t248, t249⟩, A120, H⟩ := H
 replace H : (if t223 = t227 then (if t231 = t235 then (if t239 = t243 then (if t246 = t248 then (if (t247 != t249) = true then (musterlaw14_TreeTells.j0 k l0 t219 t222 t226 t230 t234 t238 t242 true) else ((tree_Right.f t219).bind fun t250 => ((musterref14_Right.f l0).bind fun t251 => (if (t250 != t251) = true then (musterlaw14_TreeTells.j0 k l0 t219 t222 t226 t230 t234 t238 t242 true) else ((tree_Name.f a1).bind fun t252 => ((musterref14_Name.f k a1).bind fun t253 => (musterlaw14_TreeTells.j0 k l0 t219 t222 t226 t230 t234 t238 t242 (t252 != t253)))))))) else (musterlaw14_TreeTells.j0 k l0 t219 t222 t226 t230 t234 t238 t242 true)) else (musterlaw14_TreeTells.j0 k l0 t219 t222 t226 t230 t234 t238 t242 true)) else (musterlaw14_TreeTells.j0 k l0 t219 t222 t226 t230 t234 t238 t242 true)) else (musterlaw14_TreeTells.j0 k l0 t219 t222 t226 t230 t234 t238 t242 true)) = some r := H
 have A12 := Aside0.mk A120
 clear A120
 have HC13 := Aside0.mk H
 clear H
 go_enter Try.func11, Try.ntmps11
 go_upto_if 27 with (fail)
 go_cut [0] (fun v1 wc => v1 = .slice A0 l0.length c0 ∧ w = wc)
 case first =>
  have HN : Aside0 (l0.length = (cutTo 100 y0).length) := ⟨by rw [HL.out]⟩
  have p1 := HYc.out
  have p2 := HYl.out
  unfold maxLen at p2
  by_cases hlen : 100 < y0.length
  ·have HM : Aside0 (l0.length = 100) := ⟨by rw [HN.out, cutTo_len, if_pos hlen]⟩
   clear HN
   go_wp2
   go_meet
   case rel => exact ⟨by rw [HM.out], rfl⟩
  ·have HM : Aside0 (l0.length = y0.length) := ⟨by rw [HN.out, cutTo_len, if_neg hlen]⟩
   clear HN
   go_wp2
   go_meet
   case rel => exact ⟨by rw [HM.out], rfl⟩
 case rest =>
  obtain ⟨rfl, rfl⟩ := hcut
  go_upto_region 12 with (first | ((with_reducible refine gate_callee (f := 55) rfl ?_); refine goesL_ (some 31) rfl rfl Try.func55 (by kernel_rfl) rfl #[.slice A0 l0.length c0] rfl (by (try simp only [List.map_toArray, List.map_cons, List.map_nil]); first | done | rfl | (simp only [List.length_drop, List.length_take]; rfl)) ?_; (with_reducible refine (musterkit_CopyAccounts.calls k _ _ l0 t219 _ ?side1 ?side2 A4.out).mono ?_); (case side1 => repeat (first | exact HR0.out | (with_reducible refine Kd.C_alloc ?_ _) | (with_reducible refine Kd.C_drewN ?_ _) | (with_reducible refine Kd.C_drew ?_))); (case side2 => exact HC0.out); rintro e w14 ⟨v220, rfl, ho0, hb⟩; refine ⟨_, rfl, ?_⟩; have n0_ := Aside0.mk (Kd.R_lower ho0 (below_size (by repeat (first | (with_reducible first | exact HB.out | apply below_alloc | apply pw_below_drewN | apply below_drew1) | exact HB.out)))); have n1_ := Aside0.mk (below_step (by repeat (first | (with_reducible first | exact HB.out | apply below_alloc | apply pw_below_drewN | apply below_drew1) | exact HB.out)) hb); clear HB; have HO221 := n0_; have HB := n1_; clear n0_ n1_; (try clear hb); (try clear hb2); (try clear hk); (try clear hi); (try clear ho0); obtain ⟨Ao15, co15, eo15⟩ := Kd.R_slice HO221.out; subst eo15) | ((with_reducible refine gate_callee (f := 56) rfl ?_); refine goesL_ (some 35) rfl rfl Try.func56 (by kernel_rfl) rfl #[.slice Ao15 t219.length co15, .string a1] rfl (by (try simp only [List.map_toArray, List.map_cons, List.map_nil]); first | done | rfl | (simp only [List.length_drop, List.length_take]; rfl)) ?_; (with_reducible refine (tree_Path.calls k _ _ t219 a1 t222 t223 _ ?side1 ?side2 A5.out).mono ?_); (case side1 => repeat (first | exact (Kd.R_reads' HO221.out).2.2 | (with_reducible refine Kd.C_alloc ?_ _) | (with_reducible refine Kd.C_drewN ?_ _) | (with_reducible refine Kd.C_drew ?_))); (case side2 => exact (Kd.R_reads' HO221.out).2.1); rintro e w16 ⟨v224, rfl, ho0, hb⟩; refine ⟨_, rfl, ?_⟩; have n0_ := Aside0.mk (Kd.R_below (by (with_reducible repeat (first | apply Kd.R_alloc | apply Kd.R_drewN | apply Kd.R_drew)); exact HO221.out) hb); have n1_ := Aside0.mk (Kd.R_lower ho0 (below_size (by repeat (first | (with_reducible first | exact HB.out | apply below_alloc | apply pw_below_drewN | apply below_drew1) | exact HB.out)))); have n2_ := Aside0.mk (below_step (by repeat (first | (with_reducible first | exact HB.out | apply below_alloc | apply pw_below_drewN | apply below_drew1) | exact HB.out)) hb); clear HO221; clear HB; have HO221 := n0_; have HO225 := n1_; have HB := n2_; clear n0_ n1_ n2_; (try clear hb); (try clear hb2); (try clear hk); (try clear hi); (try clear ho0)) | ((with_reducible refine gate_callee (f := 57) rfl ?_); refine goesL_ (some 41) rfl rfl Try.func57 (by kernel_rfl) rfl #[.slice A0 l0.length c0, .string a1] rfl (by (try simp only [List.map_toArray, List.map_cons, List.map_nil]); first | done | rfl | (simp only [List.length_drop, List.length_take]; rfl)) ?_; (with_reducible refine (musterref14_Path.calls k _ _ l0 a1 t226 t227 _ ?side1 ?side2 A6.out).mono ?_); (case side1 => repeat (first | exact (Kd.C_below HR0.out HB.out) | (with_reducible refine Kd.C_alloc ?_ _) | (with_reducible refine Kd.C_drewN ?_ _) | (with_reducible refine Kd.C_drew ?_))); (case side2 => exact HC0.out); rintro e w17 ⟨v228, rfl, ho0, hb⟩; refine ⟨_, rfl, ?_⟩; have n0_ := Aside0.mk (Kd.R_below (by (with_reducible repeat (first | apply Kd.R_alloc | apply Kd.R_drewN | apply Kd.R_drew)); exact HO221.out) hb); have n1_ := Aside0.mk (Kd.R_elder' (by (with_reducible repeat (first | apply Kd.R_alloc | apply Kd.R_drewN | apply Kd.R_drew)); exact HO225.out) (Kd.R_base ho0) hb); have n2_ := Aside0.mk (Kd.R_lower (Kd.R_new' ho0 (Kd.R_lt (by (with_reducible repeat (first | apply Kd.R_alloc | apply Kd.R_drewN | apply Kd.R_drew)); exact HO225.out))) (below_size (by repeat (first | (with_reducible first | exact HB.out | apply below_alloc | apply pw_below_drewN | apply below_drew1) | exact HB.out)))); have n3_ := Aside0.mk (below_step (by repeat (first | (with_reducible first | exact HB.out | apply below_alloc | apply pw_below_drewN | apply below_drew1) | exact HB.out)) hb); clear HO221; clear HO225; clear HB; have HO221 := n0_; have HO225 := n1_; have HO229 := n2_; have HB := n3_; clear n0_ n1_ n2_ n3_; (try clear hb); (try clear hb2); (try clear hk); (try clear hi); (try clear ho0)) | ((with_reducible refine gate_callee (f := 58) rfl ?_); refine goesL_ (some 47) rfl rfl Try.func58 (by kernel_rfl) rfl #[.slice Ao15 t219.length co15, .string a1] rfl (by (try simp only [List.map_toArray, List.map_cons, List.map_nil]); first | done | rfl | (simp only [List.length_drop, List.length_take]; rfl)) ?_; (with_reducible refine (tree_Below.calls k _ _ t219 a1 t230 t231 _ ?side1 ?side2 A7.out).mono ?_); (case side1 => repeat (first | exact (Kd.R_reads' HO221.out).2.2 | (with_reducible refine Kd.C_alloc ?_ _) | (with_reducible refine Kd.C_drewN ?_ _) | (with_reducible refine Kd.C_drew ?_))); (case side2 => exact (Kd.R_reads' HO221.out).2.1); rintro e w18 ⟨v232, rfl, ho0, hb⟩; refine ⟨_, rfl, ?_⟩; have n0_ := Aside0.mk (Kd.R_below (by (with_reducible repeat (first | apply Kd.R_alloc | apply Kd.R_drewN | apply Kd.R_drew)); exact HO221.out) hb); have n1_ := Aside0.mk (Kd.R_elder' (by (with_reducible repeat (first | apply Kd.R_alloc | apply Kd.R_drewN | apply Kd.R_drew)); exact HO225.out) (Kd.R_base ho0) hb); have n2_ := Aside0.mk (Kd.R_elder' (by (with_reducible repeat (first | apply Kd.R_alloc | apply Kd.R_drewN | apply Kd.R_drew)); exact HO229.out) (Kd.R_base ho0) hb); have n3_ := Aside0.mk (Kd.R_lower (Kd.R_new' (Kd.R_new' ho0 (Kd.R_lt (by (with_reducible repeat (first | apply Kd.R_alloc | apply Kd.R_drewN | apply Kd.R_drew)); exact HO225.out))) (Kd.R_lt (by (with_reducible repeat (first | apply Kd.R_alloc | apply Kd.R_drewN | apply Kd.R_drew)); exact HO229.out))) (below_size (by repeat (first | (with_reducible first | exact HB.out | apply below_alloc | apply pw_below_drewN | apply below_drew1) | exact HB.out)))); have n4_ := Aside0.mk (below_step (by repeat (first | (with_reducible first | exact HB.out | apply below_alloc | apply pw_below_drewN | apply below_drew1) | exact HB.out)) hb); clear HO221; clear HO225; clear HO229; clear HB; have HO221 := n0_; have HO225 := n1_; have HO229 := n2_; have HO233 := n3_; have HB := n4_; clear n0_ n1_ n2_ n3_ n4_; (try clear hb); (try clear hb2); (try clear hk); (try clear hi); (try clear ho0)) | ((with_reducible refine gate_callee (f := 59) rfl ?_); refine goesL_ (some 53) rfl rfl Try.func59 (by kernel_rfl) rfl #[.slice A0 l0.length c0, .string a1] rfl (by (try simp only [List.map_toArray, List.map_cons, List.map_nil]); first | done | rfl | (simp only [List.length_drop, List.length_take]; rfl)) ?_; (with_reducible refine (musterref14_Below.calls k _ _ l0 a1 t234 t235 _ ?side1 ?side2 A8.out).mono ?_); (case side1 => repeat (first | exact (Kd.C_below HR0.out HB.out) | (with_reducible refine Kd.C_alloc ?_ _) | (with_reducible refine Kd.C_drewN ?_ _) | (with_reducible refine Kd.C_drew ?_))); (case side2 => exact HC0.out); rintro e w19 ⟨v236, rfl, ho0, hb⟩; refine ⟨_, rfl, ?_⟩; have n0_ := Aside0.mk (Kd.R_below (by (with_reducible repeat (first | apply Kd.R_alloc | apply Kd.R_drewN | apply Kd.R_drew)); exact HO221.out) hb); have n1_ := Aside0.mk (Kd.R_elder' (by (with_reducible repeat (first | apply Kd.R_alloc | apply Kd.R_drewN | apply Kd.R_drew)); exact HO225.out) (Kd.R_base ho0) hb); have n2_ := Aside0.mk (Kd.R_elder' (by (with_reducible repeat (first | apply Kd.R_alloc | apply Kd.R_drewN | apply Kd.R_drew)); exact HO229.out) (Kd.R_base ho0) hb); have n3_ := Aside0.mk (Kd.R_elder' (by (with_reducible repeat (first | apply Kd.R_alloc | apply Kd.R_drewN | apply Kd.R_drew)); exact HO233.out) (Kd.R_base ho0) hb); have n4_ := Aside0.mk (Kd.R_lower (Kd.R_new' (Kd.R_new' (Kd.R_new' ho0 (Kd.R_lt (by (with_reducible repeat (first | apply Kd.R_alloc | apply Kd.R_drewN | apply Kd.R_drew)); exact HO225.out))) (Kd.R_lt (by (with_reducible repeat (first | apply Kd.R_alloc | apply Kd.R_drewN | apply Kd.R_drew)); exact HO229.out))) (Kd.R_lt (by (with_reducible repeat (first | apply Kd.R_alloc | apply Kd.R_drewN | apply Kd.R_drew)); exact HO233.out))) (below_size (by repeat (first | (with_reducible first | exact HB.out | apply below_alloc | apply pw_below_drewN | apply below_drew1) | exact HB.out)))); have n5_ := Aside0.mk (below_step (by repeat (first | (with_reducible first | exact HB.out | apply below_alloc | apply pw_below_drewN | apply below_drew1) | exact HB.out)) hb); clear HO221; clear HO225; clear HO229; clear HO233; clear HB; have HO221 := n0_; have HO225 := n1_; have HO229 := n2_; have HO233 := n3_; have HO237 := n4_; have HB := n5_; clear n0_ n1_ n2_ n3_ n4_ n5_; (try clear hb); (try clear hb2); (try clear hk); (try clear hi); (try clear ho0)) | ((with_reducible refine gate_callee (f := 60) rfl ?_); refine goesL_ (some 60) rfl rfl Try.func60 (by kernel_rfl) rfl #[.slice Ao15 t219.length co15, .string a1, .int .i64 a2] rfl (by (try simp only [List.map_toArray, List.map_cons, List.map_nil]); first | done | rfl | (simp only [List.length_drop, List.length_take]; rfl)) ?_; (with_reducible refine (tree_Limit.calls k _ _ t219 a1 a2 t238 t239 _ ?side1 ?side2 A9.out).mono ?_); (case side1 => repeat (first | exact (Kd.R_reads' HO221.out).2.2 | (with_reducible refine Kd.C_alloc ?_ _) | (with_reducible refine Kd.C_drewN ?_ _) | (with_reducible refine Kd.C_drew ?_))); (case side2 => exact (Kd.R_reads' HO221.out).2.1); rintro e w20 ⟨v240, rfl, ho0, hb⟩; refine ⟨_, rfl, ?_⟩; have n0_ := Aside0.mk (Kd.R_elder' (by (with_reducible repeat (first | apply Kd.R_alloc | apply Kd.R_drewN | apply Kd.R_drew)); exact HO221.out) (Kd.R_base ho0) hb); have n1_ := Aside0.mk (Kd.R_below (by (with_reducible repeat (first | apply Kd.R_alloc | apply Kd.R_drewN | apply Kd.R_drew)); exact HO225.out) hb); have n2_ := Aside0.mk (Kd.R_below (by (with_reducible repeat (first | apply Kd.R_alloc | apply Kd.R_drewN | apply Kd.R_drew)); exact HO229.out) hb); have n3_ := Aside0.mk (Kd.R_below (by (with_reducible repeat (first | apply Kd.R_alloc | apply Kd.R_drewN | apply Kd.R_drew)); exact HO233.out) hb); have n4_ := Aside0.mk (Kd.R_below (by (with_reducible repeat (first | apply Kd.R_alloc | apply Kd.R_drewN | apply Kd.R_drew)); exact HO237.out) hb); have n5_ := Aside0.mk (Kd.R_lower (Kd.R_new' ho0 (Kd.R_lt (by (with_reducible repeat (first | apply Kd.R_alloc | apply Kd.R_drewN | apply Kd.R_drew)); exact HO221.out))) (below_size (by repeat (first | (with_reducible first | exact HB.out | apply below_alloc | apply pw_below_drewN | apply below_drew1) | exact HB.out)))); have n6_ := Aside0.mk (below_step (by repeat (first | (with_reducible first | exact HB.out | apply below_alloc | apply pw_below_drewN | apply below_drew1) | exact HB.out)) hb); clear HO221; clear HO225; clear HO229; clear HO233; clear HO237; clear HB; have HO221 := n0_; have HO225 := n1_; have HO229 := n2_; have HO233 := n3_; have HO237 := n4_; have HO241 := n5_; have HB := n6_; clear n0_ n1_ n2_ n3_ n4_ n5_ n6_; (try clear hb); (try clear hb2); (try clear hk); (try clear hi); (try clear ho0)) | ((with_reducible refine gate_callee (f := 61) rfl ?_); refine goesL_ (some 67) rfl rfl Try.func61 (by kernel_rfl) rfl #[.slice A0 l0.length c0, .string a1, .int .i64 a2] rfl (by (try simp only [List.map_toArray, List.map_cons, List.map_nil]); first | done | rfl | (simp only [List.length_drop, List.length_take]; rfl)) ?_; (with_reducible refine (musterref14_Limit.calls k _ _ l0 a1 a2 t242 t243 _ ?side1 ?side2 A10.out).mono ?_); (case side1 => repeat (first | exact (Kd.C_below HR0.out HB.out) | (with_reducible refine Kd.C_alloc ?_ _) | (with_reducible refine Kd.C_drewN ?_ _) | (with_reducible refine Kd.C_drew ?_))); (case side2 => exact HC0.out); rintro e w21 ⟨v244, rfl, ho0, hb⟩; refine ⟨_, rfl, ?_⟩; have n0_ := Aside0.mk (Kd.R_elder' (by (with_reducible repeat (first | apply Kd.R_alloc | apply Kd.R_drewN | apply Kd.R_drew)); exact HO221.out) (Kd.R_base ho0) hb); have n1_ := Aside0.mk (Kd.R_below (by (with_reducible repeat (first | apply Kd.R_alloc | apply Kd.R_drewN | apply Kd.R_drew)); exact HO225.out) hb); have n2_ := Aside0.mk (Kd.R_below (by (with_reducible repeat (first | apply Kd.R_alloc | apply Kd.R_drewN | apply Kd.R_drew)); exact HO229.out) hb); have n3_ := Aside0.mk (Kd.R_below (by (with_reducible repeat (first | apply Kd.R_alloc | apply Kd.R_drewN | apply Kd.R_drew)); exact HO233.out) hb); have n4_ := Aside0.mk (Kd.R_below (by (with_reducible repeat (first | apply Kd.R_alloc | apply Kd.R_drewN | apply Kd.R_drew)); exact HO237.out) hb); have n5_ := Aside0.mk (Kd.R_elder' (by (with_reducible repeat (first | apply Kd.R_alloc | apply Kd.R_drewN | apply Kd.R_drew)); exact HO241.out) (Kd.R_base ho0) hb); have n6_ := Aside0.mk (Kd.R_lower (Kd.R_new' (Kd.R_new' ho0 (Kd.R_lt (by (with_reducible repeat (first | apply Kd.R_alloc | apply Kd.R_drewN | apply Kd.R_drew)); exact HO221.out))) (Kd.R_lt (by (with_reducible repeat (first | apply Kd.R_alloc | apply Kd.R_drewN | apply Kd.R_drew)); exact HO241.out))) (below_size (by repeat (first | (with_reducible first | exact HB.out | apply below_alloc | apply pw_below_drewN | apply below_drew1) | exact HB.out)))); have n7_ := Aside0.mk (below_step (by repeat (first | (with_reducible first | exact HB.out | apply below_alloc | apply pw_below_drewN | apply below_drew1) | exact HB.out)) hb); clear HO221; clear HO225; clear HO229; clear HO233; clear HO237; clear HO241; clear HB; have HO221 := n0_; have HO225 := n1_; have HO229 := n2_; have HO233 := n3_; have HO237 := n4_; have HO241 := n5_; have HO245 := n6_; have HB := n7_; clear n0_ n1_ n2_ n3_ n4_ n5_ n6_ n7_; (try clear hb); (try clear hb2); (try clear hk); (try clear hi); (try clear ho0)) | ((with_reducible refine gate_callee (f := 62) rfl ?_); refine goesL_ (some 73) rfl rfl Try.func62 (by kernel_rfl) rfl #[.slice Ao15 t219.length co15, .string a1] rfl (by (try simp only [List.map_toArray, List.map_cons, List.map_nil]); first | done | rfl | (simp only [List.length_drop, List.length_take]; rfl)) ?_; (with_reducible refine (tree_Find.calls _ _ t219 a1 t246 t247 _ ?side1 ?side2 A11.out).mono ?_); (case side1 => repeat (first | exact (Kd.R_reads' HO221.out).2.2 | (with_reducible refine Kd.C_alloc ?_ _) | (with_reducible refine Kd.C_drewN ?_ _) | (with_reducible refine Kd.C_drew ?_))); (case side2 => exact (Kd.R_reads' HO221.out).2.1); rintro e w22 ⟨rfl, hb⟩; refine ⟨_, rfl, ?_⟩; have n0_ := Aside0.mk (Kd.R_below (by (with_reducible repeat (first | apply Kd.R_alloc | apply Kd.R_drewN | apply Kd.R_drew)); exact HO221.out) hb); have n1_ := Aside0.mk (Kd.R_below (by (with_reducible repeat (first | apply Kd.R_alloc | apply Kd.R_drewN | apply Kd.R_drew)); exact HO225.out) hb); have n2_ := Aside0.mk (Kd.R_below (by (with_reducible repeat (first | apply Kd.R_alloc | apply Kd.R_drewN | apply Kd.R_drew)); exact HO229.out) hb); have n3_ := Aside0.mk (Kd.R_below (by (with_reducible repeat (first | apply Kd.R_alloc | apply Kd.R_drewN | apply Kd.R_drew)); exact HO233.out) hb); have n4_ := Aside0.mk (Kd.R_below (by (with_reducible repeat (first | apply Kd.R_alloc | apply Kd.R_drewN | apply Kd.R_drew)); exact HO237.out) hb); have n5_ := Aside0.mk (Kd.R_below (by (with_reducible repeat (first | apply Kd.R_alloc | apply Kd.R_drewN | apply Kd.R_drew)); exact HO241.out) hb); have n6_ := Aside0.mk (Kd.R_below (by (with_reducible repeat (first | apply Kd.R_alloc | apply Kd.R_drewN | apply Kd.R_drew)); exact HO245.out) hb); have n7_ := Aside0.mk (below_step (by repeat (first | (with_reducible first | exact HB.out | apply below_alloc | apply pw_below_drewN | apply below_drew1) | exact HB.out)) hb); clear HO221; clear HO225; clear HO229; clear HO233; clear HO237; clear HO241; clear HO245; clear HB; have HO221 := n0_; have HO225 := n1_; have HO229 := n2_; have HO233 := n3_; have HO237 := n4_; have HO241 := n5_; have HO245 := n6_; have HB := n7_; clear n0_ n1_ n2_ n3_ n4_ n5_ n6_ n7_; (try clear hb); (try clear hb2); (try clear hk); (try clear hi)) | ((with_reducible refine gate_callee (f := 63) rfl ?_); refine goesL_ (some 79) rfl rfl Try.func63 (by kernel_rfl) rfl #[.slice A0 l0.length c0, .string a1] rfl (by (try simp only [List.map_toArray, List.map_cons, List.map_nil]); first | done | rfl | (simp only [List.length_drop, List.length_take]; rfl)) ?_; (with_reducible refine (musterref14_Find.calls k _ _ l0 a1 t248 t249 _ ?side1 ?side2 A12.out).mono ?_); (case side1 => repeat (first | exact (Kd.C_below HR0.out HB.out) | (with_reducible refine Kd.C_alloc ?_ _) | (with_reducible refine Kd.C_drewN ?_ _) | (with_reducible refine Kd.C_drew ?_))); (case side2 => exact HC0.out); rintro e w' ⟨rfl, ⟨nd, rfl⟩⟩; refine ⟨_, rfl, ?_⟩))
  (try simp only [Act.put, List.setIfInBounds_toArray, List.set_cons_zero, List.set_cons_succ])
  go_cut [118] (fun v118 wc => ∃ (kq : Nat) (x118_12 : Bool), v118 = .bool x118_12 ∧ Aside0 (musterlaw14_TreeTells.j0 kq l0 t219 t222 t226 t230 t234 t238 t242 x118_12 = some r) ∧ Aside0 (kq ≤ k) ∧ Aside0 (Kd.R k94 94 wc w.heap.size (fun k_ => some k_ ≠ (v240 : Value).ownBlock ∧ some k_ ≠ (v244 : Value).ownBlock) (.slice Ao15 t219.length co15) t219) ∧ Aside0 (Kd.R Kd.string 9 wc w.heap.size (fun k_ => some k_ ≠ (v228 : Value).ownBlock ∧ some k_ ≠ (v232 : Value).ownBlock ∧ some k_ ≠ (v236 : Value).ownBlock) v224 t222) ∧ Aside0 (Kd.R Kd.string 9 wc w.heap.size (fun k_ => some k_ ≠ (v224 : Value).ownBlock ∧ some k_ ≠ (v232 : Value).ownBlock ∧ some k_ ≠ (v236 : Value).ownBlock) v228 t226) ∧ Aside0 (Kd.R Kd.string 9 wc w.heap.size (fun k_ => some k_ ≠ (v224 : Value).ownBlock ∧ some k_ ≠ (v228 : Value).ownBlock ∧ some k_ ≠ (v236 : Value).ownBlock) v232 t230) ∧ Aside0 (Kd.R Kd.string 9 wc w.heap.size (fun k_ => some k_ ≠ (v224 : Value).ownBlock ∧ some k_ ≠ (v228 : Value).ownBlock ∧ some k_ ≠ (v232 : Value).ownBlock) v236 t234) ∧ Aside0 (Kd.R k94 94 wc w.heap.size (fun k_ => some k_ ≠ ((.slice Ao15 t219.length co15) : Value).ownBlock ∧ some k_ ≠ (v244 : Value).ownBlock) v240 t238) ∧ Aside0 (Kd.R k94 94 wc w.heap.size (fun k_ => some k_ ≠ ((.slice Ao15 t219.length co15) : Value).ownBlock ∧ some k_ ≠ (v240 : Value).ownBlock) v244 t242) ∧ Aside0 (Below w.heap.size w wc))
  case first =>
   have H := HC13.out
   clear HC13
   by_cases c23 : t223 = t227
   ·rw [if_pos c23] at H
    have c23b0 : (t223 == t227) = true := beq_iff_eq.mpr c23
    have c23b1 : (t223 != t227) = false := bne_eq_false_iff_eq.mpr c23
    clear c23
    (first | rw [c23b0] | (simp only [i64_w, i32_w]; rw [c23b0]) | skip)
    by_cases c24 : t231 = t235
    ·rw [if_pos c24] at H
     have c24b0 : (t231 == t235) = true := beq_iff_eq.mpr c24
     have c24b1 : (t231 != t235) = false := bne_eq_false_iff_eq.mpr c24
     clear c24
     by_cases c25 : t239 = t243
     ·rw [if_pos c25] at H
      have c25b0 : (t239 == t243) = true := beq_iff_eq.mpr c25
      have c25b1 : (t239 != t243) = false := bne_eq_false_iff_eq.mpr c25
      clear c25
      by_cases c26 : t246 = t248
      ·rw [if_pos c26] at H
       have c26b0 : (t246 == t248) = true := beq_iff_eq.mpr c26
       have c26b1 : (t246 != t248) = false := bne_eq_false_iff_eq.mpr c26
       clear c26
       by_cases c27 : (t247 != t249) = true
       ·rw [if_pos c27] at H
        have c27b0 : (t247 != t249) = true := c27
        (try (have c27b1 : decide (t247 = t249) = false := by simpa using c27))
        (try (have c27b2 : (t247 == t249) = false := by simpa using c27))
        (try (have c27b3 : ¬ (t247 = t249) := by simpa using c27))
        clear c27
        have H' := Aside0.mk H
        clear H
        go_wp2
        go_meet
        case rel => exact ⟨_, (true), (by first | rfl | (simp; done) | (simp [*]; done)), H', ⟨by first | omega | exact Nat.le_refl _⟩, ⟨by (with_reducible repeat (first | apply Kd.R_alloc | apply Kd.R_drewN | apply Kd.R_drew)); exact Kd.R_mono HO221.out (fun _ hk => ⟨hk.1.2, hk.2⟩)⟩, ⟨by (with_reducible repeat (first | apply Kd.R_alloc | apply Kd.R_drewN | apply Kd.R_drew)); exact Kd.R_mono HO225.out (fun _ hk => ⟨hk.1.1.2, ⟨hk.1.2, hk.2⟩⟩)⟩, ⟨by (with_reducible repeat (first | apply Kd.R_alloc | apply Kd.R_drewN | apply Kd.R_drew)); exact Kd.R_mono HO229.out (fun _ hk => ⟨hk.1.1.2, ⟨hk.1.2, hk.2⟩⟩)⟩, ⟨by (with_reducible repeat (first | apply Kd.R_alloc | apply Kd.R_drewN | apply Kd.R_drew)); exact Kd.R_mono HO233.out (fun _ hk => ⟨hk.1.1.2, ⟨hk.1.2, hk.2⟩⟩)⟩, ⟨by (with_reducible repeat (first | apply Kd.R_alloc | apply Kd.R_drewN | apply Kd.R_drew)); exact Kd.R_mono HO237.out (fun _ hk => ⟨hk.1.1.2, ⟨hk.1.2, hk.2⟩⟩)⟩, ⟨by (with_reducible repeat (first | apply Kd.R_alloc | apply Kd.R_drewN | apply Kd.R_drew)); exact Kd.R_mono HO241.out (fun _ hk => ⟨hk.1.2, hk.2⟩)⟩, ⟨by (with_reducible repeat (first | apply Kd.R_alloc | apply Kd.R_drewN | apply Kd.R_drew)); exact Kd.R_mono HO245.out (fun _ hk => ⟨hk.1.2, hk.2⟩)⟩, ⟨by repeat (first | (with_reducible first | exact HB.out | apply below_alloc | apply pw_below_drewN | apply below_drew1) | exact HB.out)⟩⟩
       ·rw [if_neg c27] at H
        have c27b0 : (t247 != t249) = false := by simpa using c27
        (try (have c27b1 : decide (t247 = t249) = true := by simpa using c27))
        (try (have c27b2 : (t247 == t249) = true := by simpa using c27))
        clear c27
        replace H := Option.bind_eq_some_iff.mp H
        obtain ⟨t250, A280, H⟩ := H
        replace H : ((musterref14_Right.f l0).bind fun t251 => (if (t250 != t251) = true then (musterlaw14_TreeTells.j0 k l0 t219 t222 t226 t230 t234 t238 t242 true) else ((tree_Name.f a1).bind fun t252 => ((musterref14_Name.f k a1).bind fun t253 => (musterlaw14_TreeTells.j0 k l0 t219 t222 t226 t230 t234 t238 t242 (t252 != t253)))))) = some r := H
        have A28 := Aside0.mk A280
        clear A280
        replace H := Option.bind_eq_some_iff.mp H
        obtain ⟨t251, A290, H⟩ := H
        replace H : (if (t250 != t251) = true then (musterlaw14_TreeTells.j0 k l0 t219 t222 t226 t230 t234 t238 t242 true) else ((tree_Name.f a1).bind fun t252 => ((musterref14_Name.f k a1).bind fun t253 => (musterlaw14_TreeTells.j0 k l0 t219 t222 t226 t230 t234 t238 t242 (t252 != t253))))) = some r := H
        have A29 := Aside0.mk A290
        clear A290
        by_cases c30 : (t250 != t251) = true
        ·rw [if_pos c30] at H
         have c30b0 : (t250 != t251) = true := c30
         (try (have c30b1 : decide (t250 = t251) = false := by simpa using c30))
         (try (have c30b2 : (t250 == t251) = false := by simpa using c30))
         (try (have c30b3 : ¬ (t250 = t251) := by simpa using c30))
         clear c30
         have H' := Aside0.mk H
         clear H
         go_wp2_with (first | (go_at_call 64; (with_reducible refine (tree_Right.calls _ _ t219 t250 _ ?side1 ?side2 A28.out).mono ?_); (case side1 => repeat (first | exact (Kd.R_reads' HO221.out).2.2 | (with_reducible refine Kd.C_alloc ?_ _) | (with_reducible refine Kd.C_drewN ?_ _) | (with_reducible refine Kd.C_drew ?_))); (case side2 => exact (Kd.R_reads' HO221.out).2.1); rintro e w31 ⟨rfl, hb⟩; have n0_ := Aside0.mk (Kd.R_below (by (with_reducible repeat (first | apply Kd.R_alloc | apply Kd.R_drewN | apply Kd.R_drew)); exact HO221.out) hb); have n1_ := Aside0.mk (Kd.R_below (by (with_reducible repeat (first | apply Kd.R_alloc | apply Kd.R_drewN | apply Kd.R_drew)); exact HO225.out) hb); have n2_ := Aside0.mk (Kd.R_below (by (with_reducible repeat (first | apply Kd.R_alloc | apply Kd.R_drewN | apply Kd.R_drew)); exact HO229.out) hb); have n3_ := Aside0.mk (Kd.R_below (by (with_reducible repeat (first | apply Kd.R_alloc | apply Kd.R_drewN | apply Kd.R_drew)); exact HO233.out) hb); have n4_ := Aside0.mk (Kd.R_below (by (with_reducible repeat (first | apply Kd.R_alloc | apply Kd.R_drewN | apply Kd.R_drew)); exact HO237.out) hb); have n5_ := Aside0.mk (Kd.R_below (by (with_reducible repeat (first | apply Kd.R_alloc | apply Kd.R_drewN | apply Kd.R_drew)); exact HO241.out) hb); have n6_ := Aside0.mk (Kd.R_below (by (with_reducible repeat (first | apply Kd.R_alloc | apply Kd.R_drewN | apply Kd.R_drew)); exact HO245.out) hb); have n7_ := Aside0.mk (below_step (by repeat (first | (with_reducible first | exact HB.out | apply below_alloc | apply pw_below_drewN | apply below_drew1) | exact HB.out)) hb); clear HO221; clear HO225; clear HO229; clear HO233; clear HO237; clear HO241; clear HO245; clear HB; have HO221 := n0_; have HO225 := n1_; have HO229 := n2_; have HO233 := n3_; have HO237 := n4_; have HO241 := n5_; have HO245 := n6_; have HB := n7_; clear n0_ n1_ n2_ n3_ n4_ n5_ n6_ n7_; (try clear hb); (try clear hb2); (try clear hk); (try clear hi)) | (go_at_call 65; (with_reducible refine (musterref14_Right.calls _ _ l0 t251 _ ?side1 ?side2 A29.out).mono ?_); (case side1 => repeat (first | exact (Kd.C_below HR0.out HB.out) | (with_reducible refine Kd.C_alloc ?_ _) | (with_reducible refine Kd.C_drewN ?_ _) | (with_reducible refine Kd.C_drew ?_))); (case side2 => exact HC0.out); rintro e w32 ⟨rfl, hb⟩; have n0_ := Aside0.mk (Kd.R_below (by (with_reducible repeat (first | apply Kd.R_alloc | apply Kd.R_drewN | apply Kd.R_drew)); exact HO221.out) hb); have n1_ := Aside0.mk (Kd.R_below (by (with_reducible repeat (first | apply Kd.R_alloc | apply Kd.R_drewN | apply Kd.R_drew)); exact HO225.out) hb); have n2_ := Aside0.mk (Kd.R_below (by (with_reducible repeat (first | apply Kd.R_alloc | apply Kd.R_drewN | apply Kd.R_drew)); exact HO229.out) hb); have n3_ := Aside0.mk (Kd.R_below (by (with_reducible repeat (first | apply Kd.R_alloc | apply Kd.R_drewN | apply Kd.R_drew)); exact HO233.out) hb); have n4_ := Aside0.mk (Kd.R_below (by (with_reducible repeat (first | apply Kd.R_alloc | apply Kd.R_drewN | apply Kd.R_drew)); exact HO237.out) hb); have n5_ := Aside0.mk (Kd.R_below (by (with_reducible repeat (first | apply Kd.R_alloc | apply Kd.R_drewN | apply Kd.R_drew)); exact HO241.out) hb); have n6_ := Aside0.mk (Kd.R_below (by (with_reducible repeat (first | apply Kd.R_alloc | apply Kd.R_drewN | apply Kd.R_drew)); exact HO245.out) hb); have n7_ := Aside0.mk (below_step (by repeat (first | (with_reducible first | exact HB.out | apply below_alloc | apply pw_below_drewN | apply below_drew1) | exact HB.out)) hb); clear HO221; clear HO225; clear HO229; clear HO233; clear HO237; clear HO241; clear HO245; clear HB; have HO221 := n0_; have HO225 := n1_; have HO229 := n2_; have HO233 := n3_; have HO237 := n4_; have HO241 := n5_; have HO245 := n6_; have HB := n7_; clear n0_ n1_ n2_ n3_ n4_ n5_ n6_ n7_; (try clear hb); (try clear hb2); (try clear hk); (try clear hi)))
         go_meet
         case rel => exact ⟨_, (true), (by first | rfl | (simp; done) | (simp [*]; done)), H', ⟨by first | omega | exact Nat.le_refl _⟩, ⟨by (with_reducible repeat (first | apply Kd.R_alloc | apply Kd.R_drewN | apply Kd.R_drew)); exact Kd.R_mono HO221.out (fun _ hk => ⟨hk.1.2, hk.2⟩)⟩, ⟨by (with_reducible repeat (first | apply Kd.R_alloc | apply Kd.R_drewN | apply Kd.R_drew)); exact Kd.R_mono HO225.out (fun _ hk => ⟨hk.1.1.2, ⟨hk.1.2, hk.2⟩⟩)⟩, ⟨by (with_reducible repeat (first | apply Kd.R_alloc | apply Kd.R_drewN | apply Kd.R_drew)); exact Kd.R_mono HO229.out (fun _ hk => ⟨hk.1.1.2, ⟨hk.1.2, hk.2⟩⟩)⟩, ⟨by (with_reducible repeat (first | apply Kd.R_alloc | apply Kd.R_drewN | apply Kd.R_drew)); exact Kd.R_mono HO233.out (fun _ hk => ⟨hk.1.1.2, ⟨hk.1.2, hk.2⟩⟩)⟩, ⟨by (with_reducible repeat (first | apply Kd.R_alloc | apply Kd.R_drewN | apply Kd.R_drew)); exact Kd.R_mono HO237.out (fun _ hk => ⟨hk.1.1.2, ⟨hk.1.2, hk.2⟩⟩)⟩, ⟨by (with_reducible repeat (first | apply Kd.R_alloc | apply Kd.R_drewN | apply Kd.R_drew)); exact Kd.R_mono HO241.out (fun _ hk => ⟨hk.1.2, hk.2⟩)⟩, ⟨by (with_reducible repeat (first | apply Kd.R_alloc | apply Kd.R_drewN | apply Kd.R_drew)); exact Kd.R_mono HO245.out (fun _ hk => ⟨hk.1.2, hk.2⟩)⟩, ⟨by repeat (first | (with_reducible first | exact HB.out | apply below_alloc | apply pw_below_drewN | apply below_drew1) | exact HB.out)⟩⟩
        ·rw [if_neg c30] at H
         have c30b0 : (t250 != t251) = false := by simpa using c30
         (try (have c30b1 : decide (t250 = t251) = true := by simpa using c30))
         (try (have c30b2 : (t250 == t251) = true := by simpa using c30))
         clear c30
         replace H := Option.bind_eq_some_iff.mp H
         obtain ⟨t252, A330, H⟩ := H
         replace H : ((musterref14_Name.f k a1).bind fun t253 => (musterlaw14_TreeTells.j0 k l0 t219 t222 t226 t230 t234 t238 t242 (t252 != t253))) = some r := H
         have A33 := Aside0.mk A330
         clear A330
         replace H := Option.bind_eq_some_iff.mp H
         obtain ⟨t253, A340, H⟩ := H
         replace H : (musterlaw14_TreeTells.j0 k l0 t219 t222 t226 t230 t234 t238 t242 (t252 != t253)) = some r := H
         have A34 := Aside0.mk A340
         clear A340
         have H' := Aside0.mk H
         clear H
         go_wp2_with (first | (go_at_call 64; (with_reducible refine (tree_Right.calls _ _ t219 t250 _ ?side1 ?side2 A28.out).mono ?_); (case side1 => repeat (first | exact (Kd.R_reads' HO221.out).2.2 | (with_reducible refine Kd.C_alloc ?_ _) | (with_reducible refine Kd.C_drewN ?_ _) | (with_reducible refine Kd.C_drew ?_))); (case side2 => exact (Kd.R_reads' HO221.out).2.1); rintro e w35 ⟨rfl, hb⟩; have n0_ := Aside0.mk (Kd.R_below (by (with_reducible repeat (first | apply Kd.R_alloc | apply Kd.R_drewN | apply Kd.R_drew)); exact HO221.out) hb); have n1_ := Aside0.mk (Kd.R_below (by (with_reducible repeat (first | apply Kd.R_alloc | apply Kd.R_drewN | apply Kd.R_drew)); exact HO225.out) hb); have n2_ := Aside0.mk (Kd.R_below (by (with_reducible repeat (first | apply Kd.R_alloc | apply Kd.R_drewN | apply Kd.R_drew)); exact HO229.out) hb); have n3_ := Aside0.mk (Kd.R_below (by (with_reducible repeat (first | apply Kd.R_alloc | apply Kd.R_drewN | apply Kd.R_drew)); exact HO233.out) hb); have n4_ := Aside0.mk (Kd.R_below (by (with_reducible repeat (first | apply Kd.R_alloc | apply Kd.R_drewN | apply Kd.R_drew)); exact HO237.out) hb); have n5_ := Aside0.mk (Kd.R_below (by (with_reducible repeat (first | apply Kd.R_alloc | apply Kd.R_drewN | apply Kd.R_drew)); exact HO241.out) hb); have n6_ := Aside0.mk (Kd.R_below (by (with_reducible repeat (first | apply Kd.R_alloc | apply Kd.R_drewN | apply Kd.R_drew)); exact HO245.out) hb); have n7_ := Aside0.mk (below_step (by repeat (first | (with_reducible first | exact HB.out | apply below_alloc | apply pw_below_drewN | apply below_drew1) | exact HB.out)) hb); clear HO221; clear HO225; clear HO229; clear HO233; clear HO237; clear HO241; clear HO245; clear HB; have HO221 := n0_; have HO225 := n1_; have HO229 := n2_; have HO233 := n3_; have HO237 := n4_; have HO241 := n5_; have HO245 := n6_; have HB := n7_; clear n0_ n1_ n2_ n3_ n4_ n5_ n6_ n7_; (try clear hb); (try clear hb2); (try clear hk); (try clear hi)) | (go_at_call 65; (with_reducible refine (musterref14_Right.calls _ _ l0 t251 _ ?side1 ?side2 A29.out).mono ?_); (case side1 => repeat (first | exact (Kd.C_below HR0.out HB.out) | (with_reducible refine Kd.C_alloc ?_ _) | (with_reducible refine Kd.C_drewN ?_ _) | (with_reducible refine Kd.C_drew ?_))); (case side2 => exact HC0.out); rintro e w36 ⟨rfl, hb⟩; have n0_ := Aside0.mk (Kd.R_below (by (with_reducible repeat (first | apply Kd.R_alloc | apply Kd.R_drewN | apply Kd.R_drew)); exact HO221.out) hb); have n1_ := Aside0.mk (Kd.R_below (by (with_reducible repeat (first | apply Kd.R_alloc | apply Kd.R_drewN | apply Kd.R_drew)); exact HO225.out) hb); have n2_ := Aside0.mk (Kd.R_below (by (with_reducible repeat (first | apply Kd.R_alloc | apply Kd.R_drewN | apply Kd.R_drew)); exact HO229.out) hb); have n3_ := Aside0.mk (Kd.R_below (by (with_reducible repeat (first | apply Kd.R_alloc | apply Kd.R_drewN | apply Kd.R_drew)); exact HO233.out) hb); have n4_ := Aside0.mk (Kd.R_below (by (with_reducible repeat (first | apply Kd.R_alloc | apply Kd.R_drewN | apply Kd.R_drew)); exact HO237.out) hb); have n5_ := Aside0.mk (Kd.R_below (by (with_reducible repeat (first | apply Kd.R_alloc | apply Kd.R_drewN | apply Kd.R_drew)); exact HO241.out) hb); have n6_ := Aside0.mk (Kd.R_below (by (with_reducible repeat (first | apply Kd.R_alloc | apply Kd.R_drewN | apply Kd.R_drew)); exact HO245.out) hb); have n7_ := Aside0.mk (below_step (by repeat (first | (with_reducible first | exact HB.out | apply below_alloc | apply pw_below_drewN | apply below_drew1) | exact HB.out)) hb); clear HO221; clear HO225; clear HO229; clear HO233; clear HO237; clear HO241; clear HO245; clear HB; have HO221 := n0_; have HO225 := n1_; have HO229 := n2_; have HO233 := n3_; have HO237 := n4_; have HO241 := n5_; have HO245 := n6_; have HB := n7_; clear n0_ n1_ n2_ n3_ n4_ n5_ n6_ n7_; (try clear hb); (try clear hb2); (try clear hk); (try clear hi)) | (go_at_call 66; (with_reducible refine (tree_Name.calls a1 t252 _ A33.out).mono ?_); rintro e w37 ⟨rfl, hb⟩; have n0_ := Aside0.mk (Kd.R_below (by (with_reducible repeat (first | apply Kd.R_alloc | apply Kd.R_drewN | apply Kd.R_drew)); exact HO221.out) hb); have n1_ := Aside0.mk (Kd.R_below (by (with_reducible repeat (first | apply Kd.R_alloc | apply Kd.R_drewN | apply Kd.R_drew)); exact HO225.out) hb); have n2_ := Aside0.mk (Kd.R_below (by (with_reducible repeat (first | apply Kd.R_alloc | apply Kd.R_drewN | apply Kd.R_drew)); exact HO229.out) hb); have n3_ := Aside0.mk (Kd.R_below (by (with_reducible repeat (first | apply Kd.R_alloc | apply Kd.R_drewN | apply Kd.R_drew)); exact HO233.out) hb); have n4_ := Aside0.mk (Kd.R_below (by (with_reducible repeat (first | apply Kd.R_alloc | apply Kd.R_drewN | apply Kd.R_drew)); exact HO237.out) hb); have n5_ := Aside0.mk (Kd.R_below (by (with_reducible repeat (first | apply Kd.R_alloc | apply Kd.R_drewN | apply Kd.R_drew)); exact HO241.out) hb); have n6_ := Aside0.mk (Kd.R_below (by (with_reducible repeat (first | apply Kd.R_alloc | apply Kd.R_drewN | apply Kd.R_drew)); exact HO245.out) hb); have n7_ := Aside0.mk (below_step (by repeat (first | (with_reducible first | exact HB.out | apply below_alloc | apply pw_below_drewN | apply below_drew1) | exact HB.out)) hb); clear HO221; clear HO225; clear HO229; clear HO233; clear HO237; clear HO241; clear HO245; clear HB; have HO221 := n0_; have HO225 := n1_; have HO229 := n2_; have HO233 := n3_; have HO237 := n4_; have HO241 := n5_; have HO245 := n6_; have HB := n7_; clear n0_ n1_ n2_ n3_ n4_ n5_ n6_ n7_; (try clear hb); (try clear hb2); (try clear hk); (try clear hi)) | (go_at_call 67; (with_reducible refine (musterref14_Name.calls k a1 t253 _ A34.out).mono ?_); rintro e w' ⟨rfl, ⟨nd, rfl⟩⟩))
         go_meet
         case rel => exact ⟨_, ((t252 != t253)), (by first | rfl | (simp; done) | (simp [*]; done)), H', ⟨by first | omega | exact Nat.le_refl _⟩, ⟨by (with_reducible repeat (first | apply Kd.R_alloc | apply Kd.R_drewN | apply Kd.R_drew)); exact Kd.R_mono HO221.out (fun _ hk => ⟨hk.1.2, hk.2⟩)⟩, ⟨by (with_reducible repeat (first | apply Kd.R_alloc | apply Kd.R_drewN | apply Kd.R_drew)); exact Kd.R_mono HO225.out (fun _ hk => ⟨hk.1.1.2, ⟨hk.1.2, hk.2⟩⟩)⟩, ⟨by (with_reducible repeat (first | apply Kd.R_alloc | apply Kd.R_drewN | apply Kd.R_drew)); exact Kd.R_mono HO229.out (fun _ hk => ⟨hk.1.1.2, ⟨hk.1.2, hk.2⟩⟩)⟩, ⟨by (with_reducible repeat (first | apply Kd.R_alloc | apply Kd.R_drewN | apply Kd.R_drew)); exact Kd.R_mono HO233.out (fun _ hk => ⟨hk.1.1.2, ⟨hk.1.2, hk.2⟩⟩)⟩, ⟨by (with_reducible repeat (first | apply Kd.R_alloc | apply Kd.R_drewN | apply Kd.R_drew)); exact Kd.R_mono HO237.out (fun _ hk => ⟨hk.1.1.2, ⟨hk.1.2, hk.2⟩⟩)⟩, ⟨by (with_reducible repeat (first | apply Kd.R_alloc | apply Kd.R_drewN | apply Kd.R_drew)); exact Kd.R_mono HO241.out (fun _ hk => ⟨hk.1.2, hk.2⟩)⟩, ⟨by (with_reducible repeat (first | apply Kd.R_alloc | apply Kd.R_drewN | apply Kd.R_drew)); exact Kd.R_mono HO245.out (fun _ hk => ⟨hk.1.2, hk.2⟩)⟩, ⟨by repeat (first | (with_reducible first | exact HB.out | apply below_alloc | apply pw_below_drewN | apply below_drew1) | exact HB.out)⟩⟩
      ·rw [if_neg c26] at H
       have c26b0 : (t246 == t248) = false := beq_eq_false_iff_ne.mpr c26
       have c26b1 : (t246 != t248) = true := bne_iff_ne.mpr c26
       have H' := Aside0.mk H
       clear H
       go_wp2
       go_meet
       case rel => exact ⟨_, (true), (by first | rfl | (simp; done) | (simp [*]; done)), H', ⟨by first | omega | exact Nat.le_refl _⟩, ⟨by (with_reducible repeat (first | apply Kd.R_alloc | apply Kd.R_drewN | apply Kd.R_drew)); exact Kd.R_mono HO221.out (fun _ hk => ⟨hk.1.2, hk.2⟩)⟩, ⟨by (with_reducible repeat (first | apply Kd.R_alloc | apply Kd.R_drewN | apply Kd.R_drew)); exact Kd.R_mono HO225.out (fun _ hk => ⟨hk.1.1.2, ⟨hk.1.2, hk.2⟩⟩)⟩, ⟨by (with_reducible repeat (first | apply Kd.R_alloc | apply Kd.R_drewN | apply Kd.R_drew)); exact Kd.R_mono HO229.out (fun _ hk => ⟨hk.1.1.2, ⟨hk.1.2, hk.2⟩⟩)⟩, ⟨by (with_reducible repeat (first | apply Kd.R_alloc | apply Kd.R_drewN | apply Kd.R_drew)); exact Kd.R_mono HO233.out (fun _ hk => ⟨hk.1.1.2, ⟨hk.1.2, hk.2⟩⟩)⟩, ⟨by (with_reducible repeat (first | apply Kd.R_alloc | apply Kd.R_drewN | apply Kd.R_drew)); exact Kd.R_mono HO237.out (fun _ hk => ⟨hk.1.1.2, ⟨hk.1.2, hk.2⟩⟩)⟩, ⟨by (with_reducible repeat (first | apply Kd.R_alloc | apply Kd.R_drewN | apply Kd.R_drew)); exact Kd.R_mono HO241.out (fun _ hk => ⟨hk.1.2, hk.2⟩)⟩, ⟨by (with_reducible repeat (first | apply Kd.R_alloc | apply Kd.R_drewN | apply Kd.R_drew)); exact Kd.R_mono HO245.out (fun _ hk => ⟨hk.1.2, hk.2⟩)⟩, ⟨by repeat (first | (with_reducible first | exact HB.out | apply below_alloc | apply pw_below_drewN | apply below_drew1) | exact HB.out)⟩⟩
     ·rw [if_neg c25] at H
      have c25b0 : (t239 == t243) = false := beq_eq_false_iff_ne.mpr c25
      have c25b1 : (t239 != t243) = true := bne_iff_ne.mpr c25
      have H' := Aside0.mk H
      clear H
      go_wp2
      go_meet
      case rel => exact ⟨_, (true), (by first | rfl | (simp; done) | (simp [*]; done)), H', ⟨by first | omega | exact Nat.le_refl _⟩, ⟨by (with_reducible repeat (first | apply Kd.R_alloc | apply Kd.R_drewN | apply Kd.R_drew)); exact Kd.R_mono HO221.out (fun _ hk => ⟨hk.1.2, hk.2⟩)⟩, ⟨by (with_reducible repeat (first | apply Kd.R_alloc | apply Kd.R_drewN | apply Kd.R_drew)); exact Kd.R_mono HO225.out (fun _ hk => ⟨hk.1.1.2, ⟨hk.1.2, hk.2⟩⟩)⟩, ⟨by (with_reducible repeat (first | apply Kd.R_alloc | apply Kd.R_drewN | apply Kd.R_drew)); exact Kd.R_mono HO229.out (fun _ hk => ⟨hk.1.1.2, ⟨hk.1.2, hk.2⟩⟩)⟩, ⟨by (with_reducible repeat (first | apply Kd.R_alloc | apply Kd.R_drewN | apply Kd.R_drew)); exact Kd.R_mono HO233.out (fun _ hk => ⟨hk.1.1.2, ⟨hk.1.2, hk.2⟩⟩)⟩, ⟨by (with_reducible repeat (first | apply Kd.R_alloc | apply Kd.R_drewN | apply Kd.R_drew)); exact Kd.R_mono HO237.out (fun _ hk => ⟨hk.1.1.2, ⟨hk.1.2, hk.2⟩⟩)⟩, ⟨by (with_reducible repeat (first | apply Kd.R_alloc | apply Kd.R_drewN | apply Kd.R_drew)); exact Kd.R_mono HO241.out (fun _ hk => ⟨hk.1.2, hk.2⟩)⟩, ⟨by (with_reducible repeat (first | apply Kd.R_alloc | apply Kd.R_drewN | apply Kd.R_drew)); exact Kd.R_mono HO245.out (fun _ hk => ⟨hk.1.2, hk.2⟩)⟩, ⟨by repeat (first | (with_reducible first | exact HB.out | apply below_alloc | apply pw_below_drewN | apply below_drew1) | exact HB.out)⟩⟩
    ·rw [if_neg c24] at H
     have c24b0 : (t231 == t235) = false := beq_eq_false_iff_ne.mpr c24
     have c24b1 : (t231 != t235) = true := bne_iff_ne.mpr c24
     have H' := Aside0.mk H
     clear H
     go_wp2
     go_meet
     case rel => exact ⟨_, (true), (by first | rfl | (simp; done) | (simp [*]; done)), H', ⟨by first | omega | exact Nat.le_refl _⟩, ⟨by (with_reducible repeat (first | apply Kd.R_alloc | apply Kd.R_drewN | apply Kd.R_drew)); exact Kd.R_mono HO221.out (fun _ hk => ⟨hk.1.2, hk.2⟩)⟩, ⟨by (with_reducible repeat (first | apply Kd.R_alloc | apply Kd.R_drewN | apply Kd.R_drew)); exact Kd.R_mono HO225.out (fun _ hk => ⟨hk.1.1.2, ⟨hk.1.2, hk.2⟩⟩)⟩, ⟨by (with_reducible repeat (first | apply Kd.R_alloc | apply Kd.R_drewN | apply Kd.R_drew)); exact Kd.R_mono HO229.out (fun _ hk => ⟨hk.1.1.2, ⟨hk.1.2, hk.2⟩⟩)⟩, ⟨by (with_reducible repeat (first | apply Kd.R_alloc | apply Kd.R_drewN | apply Kd.R_drew)); exact Kd.R_mono HO233.out (fun _ hk => ⟨hk.1.1.2, ⟨hk.1.2, hk.2⟩⟩)⟩, ⟨by (with_reducible repeat (first | apply Kd.R_alloc | apply Kd.R_drewN | apply Kd.R_drew)); exact Kd.R_mono HO237.out (fun _ hk => ⟨hk.1.1.2, ⟨hk.1.2, hk.2⟩⟩)⟩, ⟨by (with_reducible repeat (first | apply Kd.R_alloc | apply Kd.R_drewN | apply Kd.R_drew)); exact Kd.R_mono HO241.out (fun _ hk => ⟨hk.1.2, hk.2⟩)⟩, ⟨by (with_reducible repeat (first | apply Kd.R_alloc | apply Kd.R_drewN | apply Kd.R_drew)); exact Kd.R_mono HO245.out (fun _ hk => ⟨hk.1.2, hk.2⟩)⟩, ⟨by repeat (first | (with_reducible first | exact HB.out | apply below_alloc | apply pw_below_drewN | apply below_drew1) | exact HB.out)⟩⟩
   ·rw [if_neg c23] at H
    have c23b0 : (t223 == t227) = false := beq_eq_false_iff_ne.mpr c23
    have c23b1 : (t223 != t227) = true := bne_iff_ne.mpr c23
    (first | rw [c23b0] | (simp only [i64_w, i32_w]; rw [c23b0]) | skip)
    have H' := Aside0.mk H
    clear H
    go_wp2
    go_meet
    case rel => exact ⟨_, (true), (by first | rfl | (simp; done) | (simp [*]; done)), H', ⟨by first | omega | exact Nat.le_refl _⟩, ⟨by (with_reducible repeat (first | apply Kd.R_alloc | apply Kd.R_drewN | apply Kd.R_drew)); exact Kd.R_mono HO221.out (fun _ hk => ⟨hk.1.2, hk.2⟩)⟩, ⟨by (with_reducible repeat (first | apply Kd.R_alloc | apply Kd.R_drewN | apply Kd.R_drew)); exact Kd.R_mono HO225.out (fun _ hk => ⟨hk.1.1.2, ⟨hk.1.2, hk.2⟩⟩)⟩, ⟨by (with_reducible repeat (first | apply Kd.R_alloc | apply Kd.R_drewN | apply Kd.R_drew)); exact Kd.R_mono HO229.out (fun _ hk => ⟨hk.1.1.2, ⟨hk.1.2, hk.2⟩⟩)⟩, ⟨by (with_reducible repeat (first | apply Kd.R_alloc | apply Kd.R_drewN | apply Kd.R_drew)); exact Kd.R_mono HO233.out (fun _ hk => ⟨hk.1.1.2, ⟨hk.1.2, hk.2⟩⟩)⟩, ⟨by (with_reducible repeat (first | apply Kd.R_alloc | apply Kd.R_drewN | apply Kd.R_drew)); exact Kd.R_mono HO237.out (fun _ hk => ⟨hk.1.1.2, ⟨hk.1.2, hk.2⟩⟩)⟩, ⟨by (with_reducible repeat (first | apply Kd.R_alloc | apply Kd.R_drewN | apply Kd.R_drew)); exact Kd.R_mono HO241.out (fun _ hk => ⟨hk.1.2, hk.2⟩)⟩, ⟨by (with_reducible repeat (first | apply Kd.R_alloc | apply Kd.R_drewN | apply Kd.R_drew)); exact Kd.R_mono HO245.out (fun _ hk => ⟨hk.1.2, hk.2⟩)⟩, ⟨by repeat (first | (with_reducible first | exact HB.out | apply below_alloc | apply pw_below_drewN | apply below_drew1) | exact HB.out)⟩⟩
  case rest =>
   clear HC13
   try clear c1
   try clear c2
   try clear p2
   try clear c3
   try clear c5
   try clear c6
   try clear c11
   try clear c23
   try clear c23b0
   try clear c23b1
   try clear c24
   try clear c24b0
   try clear c24b1
   try clear c25
   try clear c25b0
   try clear c25b1
   try clear c26
   try clear c26b0
   try clear c26b1
   try clear c27
   try clear c27b0
   try clear c27b1
   try clear c27b2
   try clear c30
   try clear c30b0
   try clear c30b1
   try clear c30b2
   obtain ⟨kq, x118_12, rfl, HA, HJ12, HO_7, HO_8, HO_10, HO_12, HO_14, HO_16, HO_18, HB⟩ := hcut
   cases kq with
   | zero => exact absurd HA.out (by simp [musterlaw14_TreeTells.j0])
   | succ kj12 =>
    have H := HA.out
    clear HA
    simp only [musterlaw14_TreeTells.j0] at H
    by_cases c38 : x118_12 = true
    ·subst c38
     have H1 : (some false) = some r := by rw [if_pos rfl] at H; exact H
     clear H
     have H := H1
     clear H1
     obtain rfl := Option.some.inj H
     go_wp2
     go_ret
     exact ⟨by first | rfl | (simp [errW_none, errW_some] <;> rfl) | (simp [*, errW_none, errW_some] <;> rfl), by repeat (first | (with_reducible first | exact HB.out | apply below_alloc | apply pw_below_drewN | apply below_drew1) | exact HB.out)⟩
    ·replace c38 := Bool.eq_false_iff.mpr c38
     subst c38
     have H1 : ((musterkit_SameTexts.f kj12 t222 t226).bind fun t254 => (if t254 = true then ((musterkit_SameTexts.f kj12 t230 t234).bind fun t255 => (if t255 = true then ((musterkit_SameAccounts.f kj12 t238 t242).bind fun t256 => (musterlaw14_TreeTells.j1 kj12 l0 t219 t238 (!t256))) else (musterlaw14_TreeTells.j1 kj12 l0 t219 t238 true))) else (musterlaw14_TreeTells.j1 kj12 l0 t219 t238 true))) = some r := by rw [if_neg (show ¬ (false = true) by decide)] at H; exact H
     clear H
     have H := H1
     clear H1
     have HC39 := Aside0.mk H
     clear H
     go_upto_region 14 with (fail)
     go_cut [134] (fun v134 wc => ∃ (kq : Nat) (x134_38 : Bool), v134 = .bool x134_38 ∧ Aside0 (musterlaw14_TreeTells.j1 kq l0 t219 t238 x134_38 = some r) ∧ Aside0 (kq ≤ kj12) ∧ Aside0 (Kd.R k94 94 wc w.heap.size (fun k_ => some k_ ≠ (v240 : Value).ownBlock) (.slice Ao15 t219.length co15) t219) ∧ Aside0 (Kd.R k94 94 wc w.heap.size (fun k_ => some k_ ≠ ((.slice Ao15 t219.length co15) : Value).ownBlock) v240 t238) ∧ Aside0 (Below w.heap.size w wc))
     case first =>
      have H := HC39.out
      clear HC39
      replace H := Option.bind_eq_some_iff.mp H
      obtain ⟨t254, A400, H⟩ := H
      replace H : (if t254 = true then ((musterkit_SameTexts.f kj12 t230 t234).bind fun t255 => (if t255 = true then ((musterkit_SameAccounts.f kj12 t238 t242).bind fun t256 => (musterlaw14_TreeTells.j1 kj12 l0 t219 t238 (!t256))) else (musterlaw14_TreeTells.j1 kj12 l0 t219 t238 true))) else (musterlaw14_TreeTells.j1 kj12 l0 t219 t238 true)) = some r := H
      have A40 := Aside0.mk A400
      clear A400
      by_cases c41 : t254 = true
      ·subst c41
       have H1 : ((musterkit_SameTexts.f kj12 t230 t234).bind fun t255 => (if t255 = true then ((musterkit_SameAccounts.f kj12 t238 t242).bind fun t256 => (musterlaw14_TreeTells.j1 kj12 l0 t219 t238 (!t256))) else (musterlaw14_TreeTells.j1 kj12 l0 t219 t238 true))) = some r := by rw [if_pos rfl] at H; exact H
       clear H
       have H := H1
       clear H1
       replace H := Option.bind_eq_some_iff.mp H
       obtain ⟨t255, A420, H⟩ := H
       replace H : (if t255 = true then ((musterkit_SameAccounts.f kj12 t238 t242).bind fun t256 => (musterlaw14_TreeTells.j1 kj12 l0 t219 t238 (!t256))) else (musterlaw14_TreeTells.j1 kj12 l0 t219 t238 true)) = some r := H
       have A42 := Aside0.mk A420
       clear A420
       by_cases c43 : t255 = true
       ·subst c43
        have H1 : ((musterkit_SameAccounts.f kj12 t238 t242).bind fun t256 => (musterlaw14_TreeTells.j1 kj12 l0 t219 t238 (!t256))) = some r := by rw [if_pos rfl] at H; exact H
        clear H
        have H := H1
        clear H1
        replace H := Option.bind_eq_some_iff.mp H
        obtain ⟨t256, A440, H⟩ := H
        replace H : (musterlaw14_TreeTells.j1 kj12 l0 t219 t238 (!t256)) = some r := H
        have A44 := Aside0.mk A440
        clear A440
        have H' := Aside0.mk H
        clear H
        obtain ⟨Ao45, co45, eo45⟩ := Kd.R_slice HO_8.out
        subst eo45
        obtain ⟨Ao46, co46, eo46⟩ := Kd.R_slice HO_10.out
        subst eo46
        go_wp2_with (first | ((with_reducible refine gate_callee (f := 68) rfl ?_); refine goesL_ (some 121) rfl rfl Try.func68 (by kernel_rfl) rfl #[.slice Ao45 t222.length co45, .slice Ao46 t226.length co46] rfl (by (try simp only [List.map_toArray, List.map_cons, List.map_nil]); first | done | rfl | (simp only [List.length_drop, List.length_take]; rfl)) ?_; (with_reducible refine (musterkit_SameTexts.calls kj12 _ _ t222 _ _ t226 true _ ?side1 ?side2 ?side3 ?side4 A40.out).mono ?_); (case side1 => repeat (first | exact (Kd.R_reads' HO_8.out).2.2 | (with_reducible refine Kd.C_alloc ?_ _) | (with_reducible refine Kd.C_drewN ?_ _) | (with_reducible refine Kd.C_drew ?_))); (case side2 => exact (Kd.R_reads' HO_8.out).2.1); (case side3 => repeat (first | exact (Kd.R_reads' HO_10.out).2.2 | (with_reducible refine Kd.C_alloc ?_ _) | (with_reducible refine Kd.C_drewN ?_ _) | (with_reducible refine Kd.C_drew ?_))); (case side4 => exact (Kd.R_reads' HO_10.out).2.1); rintro e w' ⟨rfl, ⟨nd, rfl⟩⟩; refine ⟨_, rfl, ?_⟩; obtain ⟨Ao47, co47, eo47⟩ := Kd.R_slice HO_12.out; subst eo47; obtain ⟨Ao48, co48, eo48⟩ := Kd.R_slice HO_14.out; subst eo48) | (go_at_call 68; (with_reducible refine (musterkit_SameTexts.calls kj12 _ _ t230 _ _ t234 true _ ?side1 ?side2 ?side3 ?side4 A42.out).mono ?_); (case side1 => repeat (first | exact (Kd.R_reads' HO_12.out).2.2 | (with_reducible refine Kd.C_alloc ?_ _) | (with_reducible refine Kd.C_drewN ?_ _) | (with_reducible refine Kd.C_drew ?_))); (case side2 => exact (Kd.R_reads' HO_12.out).2.1); (case side3 => repeat (first | exact (Kd.R_reads' HO_14.out).2.2 | (with_reducible refine Kd.C_alloc ?_ _) | (with_reducible refine Kd.C_drewN ?_ _) | (with_reducible refine Kd.C_drew ?_))); (case side4 => exact (Kd.R_reads' HO_14.out).2.1); rintro e w' ⟨rfl, ⟨nd, rfl⟩⟩; obtain ⟨Ao49, co49, eo49⟩ := Kd.R_slice HO_16.out; subst eo49; obtain ⟨Ao50, co50, eo50⟩ := Kd.R_slice HO_18.out; subst eo50) | (go_at_call 69; (with_reducible refine (musterkit_SameAccounts.calls kj12 _ _ t238 _ _ t242 t256 _ ?side1 ?side2 ?side3 ?side4 A44.out).mono ?_); (case side1 => repeat (first | exact (Kd.R_reads' HO_16.out).2.2 | (with_reducible refine Kd.C_alloc ?_ _) | (with_reducible refine Kd.C_drewN ?_ _) | (with_reducible refine Kd.C_drew ?_))); (case side2 => exact (Kd.R_reads' HO_16.out).2.1); (case side3 => repeat (first | exact (Kd.R_reads' HO_18.out).2.2 | (with_reducible refine Kd.C_alloc ?_ _) | (with_reducible refine Kd.C_drewN ?_ _) | (with_reducible refine Kd.C_drew ?_))); (case side4 => exact (Kd.R_reads' HO_18.out).2.1); rintro e w' ⟨rfl, ⟨nd, rfl⟩⟩))
        go_meet
        case rel => exact ⟨_, (!t256), (by first | rfl | (simp; done) | (simp [*]; done)), H', ⟨by have := HJ12.out; first | omega | exact Nat.le_refl _⟩, ⟨by (with_reducible repeat (first | apply Kd.R_alloc | apply Kd.R_drewN | apply Kd.R_drew)); exact Kd.R_mono HO_7.out (fun _ hk => hk.1)⟩, ⟨by (with_reducible repeat (first | apply Kd.R_alloc | apply Kd.R_drewN | apply Kd.R_drew)); exact Kd.R_mono HO_16.out (fun _ hk => hk.1)⟩, ⟨by repeat (first | (with_reducible first | exact HB.out | apply below_alloc | apply pw_below_drewN | apply below_drew1) | exact HB.out)⟩⟩
       ·replace c43 := Bool.eq_false_iff.mpr c43
        subst c43
        have H1 : (musterlaw14_TreeTells.j1 kj12 l0 t219 t238 true) = some r := by rw [if_neg (show ¬ (false = true) by decide)] at H; exact H
        clear H
        have H := H1
        clear H1
        have H' := Aside0.mk H
        clear H
        obtain ⟨Ao51, co51, eo51⟩ := Kd.R_slice HO_8.out
        subst eo51
        obtain ⟨Ao52, co52, eo52⟩ := Kd.R_slice HO_10.out
        subst eo52
        go_wp2_with (first | ((with_reducible refine gate_callee (f := 68) rfl ?_); refine goesL_ (some 121) rfl rfl Try.func68 (by kernel_rfl) rfl #[.slice Ao51 t222.length co51, .slice Ao52 t226.length co52] rfl (by (try simp only [List.map_toArray, List.map_cons, List.map_nil]); first | done | rfl | (simp only [List.length_drop, List.length_take]; rfl)) ?_; (with_reducible refine (musterkit_SameTexts.calls kj12 _ _ t222 _ _ t226 true _ ?side1 ?side2 ?side3 ?side4 A40.out).mono ?_); (case side1 => repeat (first | exact (Kd.R_reads' HO_8.out).2.2 | (with_reducible refine Kd.C_alloc ?_ _) | (with_reducible refine Kd.C_drewN ?_ _) | (with_reducible refine Kd.C_drew ?_))); (case side2 => exact (Kd.R_reads' HO_8.out).2.1); (case side3 => repeat (first | exact (Kd.R_reads' HO_10.out).2.2 | (with_reducible refine Kd.C_alloc ?_ _) | (with_reducible refine Kd.C_drewN ?_ _) | (with_reducible refine Kd.C_drew ?_))); (case side4 => exact (Kd.R_reads' HO_10.out).2.1); rintro e w' ⟨rfl, ⟨nd, rfl⟩⟩; refine ⟨_, rfl, ?_⟩; obtain ⟨Ao53, co53, eo53⟩ := Kd.R_slice HO_12.out; subst eo53; obtain ⟨Ao54, co54, eo54⟩ := Kd.R_slice HO_14.out; subst eo54) | (go_at_call 68; (with_reducible refine (musterkit_SameTexts.calls kj12 _ _ t230 _ _ t234 false _ ?side1 ?side2 ?side3 ?side4 A42.out).mono ?_); (case side1 => repeat (first | exact (Kd.R_reads' HO_12.out).2.2 | (with_reducible refine Kd.C_alloc ?_ _) | (with_reducible refine Kd.C_drewN ?_ _) | (with_reducible refine Kd.C_drew ?_))); (case side2 => exact (Kd.R_reads' HO_12.out).2.1); (case side3 => repeat (first | exact (Kd.R_reads' HO_14.out).2.2 | (with_reducible refine Kd.C_alloc ?_ _) | (with_reducible refine Kd.C_drewN ?_ _) | (with_reducible refine Kd.C_drew ?_))); (case side4 => exact (Kd.R_reads' HO_14.out).2.1); rintro e w' ⟨rfl, ⟨nd, rfl⟩⟩))
        go_meet
        case rel => exact ⟨_, (true), (by first | rfl | (simp; done) | (simp [*]; done)), H', ⟨by have := HJ12.out; first | omega | exact Nat.le_refl _⟩, ⟨by (with_reducible repeat (first | apply Kd.R_alloc | apply Kd.R_drewN | apply Kd.R_drew)); exact Kd.R_mono HO_7.out (fun _ hk => hk.1)⟩, ⟨by (with_reducible repeat (first | apply Kd.R_alloc | apply Kd.R_drewN | apply Kd.R_drew)); exact Kd.R_mono HO_16.out (fun _ hk => hk.1)⟩, ⟨by repeat (first | (with_reducible first | exact HB.out | apply below_alloc | apply pw_below_drewN | apply below_drew1) | exact HB.out)⟩⟩
      ·replace c41 := Bool.eq_false_iff.mpr c41
       subst c41
       have H1 : (musterlaw14_TreeTells.j1 kj12 l0 t219 t238 true) = some r := by rw [if_neg (show ¬ (false = true) by decide)] at H; exact H
       clear H
       have H := H1
       clear H1
       have H' := Aside0.mk H
       clear H
       obtain ⟨Ao55, co55, eo55⟩ := Kd.R_slice HO_8.out
       subst eo55
       obtain ⟨Ao56, co56, eo56⟩ := Kd.R_slice HO_10.out
       subst eo56
       go_wp2_with (first | ((with_reducible refine gate_callee (f := 68) rfl ?_); refine goesL_ (some 121) rfl rfl Try.func68 (by kernel_rfl) rfl #[.slice Ao55 t222.length co55, .slice Ao56 t226.length co56] rfl (by (try simp only [List.map_toArray, List.map_cons, List.map_nil]); first | done | rfl | (simp only [List.length_drop, List.length_take]; rfl)) ?_; (with_reducible refine (musterkit_SameTexts.calls kj12 _ _ t222 _ _ t226 false _ ?side1 ?side2 ?side3 ?side4 A40.out).mono ?_); (case side1 => repeat (first | exact (Kd.R_reads' HO_8.out).2.2 | (with_reducible refine Kd.C_alloc ?_ _) | (with_reducible refine Kd.C_drewN ?_ _) | (with_reducible refine Kd.C_drew ?_))); (case side2 => exact (Kd.R_reads' HO_8.out).2.1); (case side3 => repeat (first | exact (Kd.R_reads' HO_10.out).2.2 | (with_reducible refine Kd.C_alloc ?_ _) | (with_reducible refine Kd.C_drewN ?_ _) | (with_reducible refine Kd.C_drew ?_))); (case side4 => exact (Kd.R_reads' HO_10.out).2.1); rintro e w' ⟨rfl, ⟨nd, rfl⟩⟩; refine ⟨_, rfl, ?_⟩))
       go_meet
       case rel => exact ⟨_, (true), (by first | rfl | (simp; done) | (simp [*]; done)), H', ⟨by have := HJ12.out; first | omega | exact Nat.le_refl _⟩, ⟨by (with_reducible repeat (first | apply Kd.R_alloc | apply Kd.R_drewN | apply Kd.R_drew)); exact Kd.R_mono HO_7.out (fun _ hk => hk.1)⟩, ⟨by (with_reducible repeat (first | apply Kd.R_alloc | apply Kd.R_drewN | apply Kd.R_drew)); exact Kd.R_mono HO_16.out (fun _ hk => hk.1)⟩, ⟨by repeat (first | (with_reducible first | exact HB.out | apply below_alloc | apply pw_below_drewN | apply below_drew1) | exact HB.out)⟩⟩
     case rest =>
      clear HC39
      try clear c1
      try clear c2
      try clear p2
      try clear c3
      try clear c4
      try clear c5
      try clear c6
      try clear c11
      try clear c23
      try clear c23b0
      try clear c23b1
      try clear c24
      try clear c24b0
      try clear c24b1
      try clear c25
      try clear c25b0
      try clear c25b1
      try clear c26
      try clear c26b0
      try clear c26b1
      try clear c27
      try clear c27b0
      try clear c27b1
      try clear c27b2
      try clear c30
      try clear c30b0
      try clear c30b1
      try clear c30b2
      try clear c38
      try clear c41
      try clear c43
      try clear c55
      try clear c56
      try clear p2
      obtain ⟨kq, x134_38, rfl, HA, HJ38, HO_7, HO_16, HB⟩ := hcut
      cases kq with
      | zero => exact absurd HA.out (by simp [musterlaw14_TreeTells.j1])
      | succ kj38 =>
       have H := HA.out
       clear HA
       simp only [musterlaw14_TreeTells.j1] at H
       by_cases c57 : x134_38 = true
       ·subst c57
        have H1 : (some false) = some r := by rw [if_pos rfl] at H; exact H
        clear H
        have H := H1
        clear H1
        obtain rfl := Option.some.inj H
        go_wp2
        go_ret
        exact ⟨by first | rfl | (simp [errW_none, errW_some] <;> rfl) | (simp [*, errW_none, errW_some] <;> rfl), by repeat (first | (with_reducible first | exact HB.out | apply below_alloc | apply pw_below_drewN | apply below_drew1) | exact HB.out)⟩
       ·replace c57 := Bool.eq_false_iff.mpr c57
        subst c57
        have H1 : (musterlaw14_TreeTells.l0 kj38 l0 t219 t238 0) = some r := by rw [if_neg (show ¬ (false = true) by decide)] at H; exact H
        clear H
        have H := H1
        clear H1
        have H' := Aside0.mk H
        clear H
        go_wp2
        go_loopg [24] kj38 (fun kq v24 w' => ∃ (x16_3 : List (S94)) (x24_3 : Int), v24 = .int .i64 x24_3 ∧ Aside0 (musterlaw14_TreeTells.l0 kq l0 t219 x16_3 x24_3 = some r) ∧ Aside0 (kq ≤ kj38) ∧ Aside0 (Kd.R k94 94 w' w.heap.size (fun k_ => some k_ ≠ (v240 : Value).ownBlock) (.slice Ao15 t219.length co15) t219) ∧ Aside0 (Kd.R k94 94 w' w.heap.size (fun k_ => some k_ ≠ ((.slice Ao15 t219.length co15) : Value).ownBlock) v240 x16_3) ∧ Aside0 (Below w.heap.size w w'))
        case atStart => exact ⟨(t238), (0), (by first | rfl | (simp; done) | (simp [*]; done)), H', ⟨Nat.le_refl _⟩, ⟨by (with_reducible repeat (first | apply Kd.R_alloc | apply Kd.R_drewN | apply Kd.R_drew)); exact HO_7.out⟩, ⟨by (with_reducible repeat (first | apply Kd.R_alloc | apply Kd.R_drewN | apply Kd.R_drew)); exact HO_16.out⟩, ⟨by repeat (first | (with_reducible first | exact HB.out | apply below_alloc | apply pw_below_drewN | apply below_drew1) | exact HB.out)⟩⟩
        case round =>
         clear H'
         try clear c1
         try clear c2
         try clear p2
         try clear c3
         try clear c4
         try clear c5
         try clear c6
         try clear c11
         try clear c23
         try clear c23b0
         try clear c23b1
         try clear c24
         try clear c24b0
         try clear c24b1
         try clear c25
         try clear c25b0
         try clear c25b1
         try clear c26
         try clear c26b0
         try clear c26b1
         try clear c27
         try clear c27b0
         try clear c27b1
         try clear c27b2
         try clear c30
         try clear c30b0
         try clear c30b1
         try clear c30b2
         try clear c38
         try clear c41
         try clear c43
         try clear c55
         try clear c56
         try clear c57
         try clear p2
         obtain ⟨x16_3, x24_3, rfl, HA, HK3, HO_7, HO_16, HB⟩ := hrel
         cases gk with
         | zero => exact absurd HA.out (by simp [musterlaw14_TreeTells.l0])
         | succ k3 =>
          have H := HA.out
          clear HA
          simp only [musterlaw14_TreeTells.l0] at H
          by_cases c58 : x24_3 < (x16_3.length : Int)
          ·rw [if_pos c58] at H
           have c58b0 : decide (x24_3 < (x16_3.length : Int)) = true := decide_eq_true c58
           clear c58
           by_cases c59 : 0 ≤ x24_3
           ·rw [if_pos c59] at H
            have c59b0 : decide (0 ≤ x24_3) = true := decide_eq_true c59
            clear c59
            obtain ⟨y257, hy257⟩ : ∃ y_ : List (S94), y_ = (x16_3.set (x24_3 : Int).toNat (⟨(⟨#[115, 112, 111, 105, 108, 116]⟩ : ByteArray), (rd_T94 x16_3 x24_3).f1, (rd_T94 x16_3 x24_3).f2⟩ : S94)) := ⟨_, rfl⟩
            replace H : (musterlaw14_TreeTells.l0 k3 l0 t219 y257 (wrap64 (x24_3 + 1))) = some r := by first | (rw [hy257]; with_reducible exact H) | (have H2_ := (Option.bind_some _ _).symm.trans H; rw [hy257]; with_reducible exact H2_) | (have H2_ := (Option.bind_some _ _).symm.trans H; with_reducible exact H2_) | with_reducible exact H | (rw [hy257]; exact H) | exact H
            have Ny257 := Aside0.mk hy257
            clear hy257
            have H' := Aside0.mk H
            clear H
            obtain ⟨Ao61, co61, eo61⟩ := Kd.R_slice HO_16.out
            subst eo61
            have p60 : 0 ≤ (x24_3 : Int) := of_decide_eq_true (by first | (with_reducible assumption) | assumption)
            have q60 : (x24_3 : Int) < ((x16_3.length : Int) : Int) := of_decide_eq_true (by first | (with_reducible assumption) | assumption)
            obtain ⟨go60, co60, eo60, gb60, gl60, cl60, HG60⟩ := Kd.R_form HO_16.out (by omega)
            (first | cases eo60 | (injection eo60 with ea_ en_ ec_; (first | subst ea_ | (injection ea_ with ea_; subst ea_)); subst ec_; clear en_))
            have GB60 := Aside0.mk gb60
            have GG60 := Aside0.mk HG60
            clear gb60 gl60 HG60
            obtain ⟨ce60, hcl60, hM60, hcc60, hfr60⟩ := Kd.R_elem HO_16.out z94 (x24_3 : Int) p60 q60
            obtain rfl := k94_openM hM60
            have hx60_0 : wr.cell? ⟨go60, (x24_3 : Int).toNat * 3, none⟩ = some (.string ((rd_T94 x16_3 x24_3).f0)) := hcc60 0 _ rfl
            have hx60_1 : wr.cell? ⟨go60, (x24_3 : Int).toNat * 3 + 1, none⟩ = some (.string ((rd_T94 x16_3 x24_3).f1)) := hcc60 1 _ rfl
            have hx60_2 : wr.cell? ⟨go60, (x24_3 : Int).toNat * 3 + 2, none⟩ = some (.int .i64 ((rd_T94 x16_3 x24_3).f2)) := hcc60 2 _ rfl
            have hf60_0 : wr.frozen? ⟨go60, (x24_3 : Int).toNat * 3, none⟩ = false := hfr60 0
            have hf60_1 : wr.frozen? ⟨go60, (x24_3 : Int).toNat * 3 + 1, none⟩ = false := hfr60 1
            have hf60_2 : wr.frozen? ⟨go60, (x24_3 : Int).toNat * 3 + 2, none⟩ = false := hfr60 2
            clear hcl60 hcc60 hfr60 hM60
            replace p60 := eq_true p60
            replace q60 := eq_true q60
            have HX62 := Aside0.mk (show Kd.R k94 94 wr w.heap.size (fun k_ => some k_ ≠ (.slice Ao15 t219.length co15 : Value).ownBlock) (.slice (some ⟨go60, 0, none⟩) x16_3.length co61) x16_3 from (by (with_reducible repeat (first | apply Kd.R_alloc | apply Kd.R_drewN | apply Kd.R_drew)); exact HO_16.out))
            obtain ⟨ce62, hcl62, hM62, hcc62, hfr62⟩ := Kd.R_elem HX62.out z94 (x24_3 : Int) (of_decide_eq_true (by first | (with_reducible assumption) | assumption)) (by have h_ : (x24_3 : Int) < ((x16_3.length : Int) : Int) := of_decide_eq_true (by first | (with_reducible assumption) | assumption); first | exact h_ | (have e_ := (Kd.R_reads' HO_16.out).1; omega) | simpa using h_)
            obtain rfl := k94_openM hM62
            have HP62 := Kd.R_seg HX62.out (x24_3 : Int) (of_decide_eq_true (by first | (with_reducible assumption) | assumption)) (by have h_ : (x24_3 : Int) < ((x16_3.length : Int) : Int) := of_decide_eq_true (by first | (with_reducible assumption) | assumption); first | exact h_ | (have e_ := (Kd.R_reads' HO_16.out).1; omega) | simpa using h_) (seg := [.string (⟨#[115, 112, 111, 105, 108, 116]⟩ : ByteArray)]) (j := 0) hcl62 hcc62 (show 1 ≤ 3 from by decide) (x' := (⟨(⟨#[115, 112, 111, 105, 108, 116]⟩ : ByteArray), (rd_T94 x16_3 x24_3).f1, (rd_T94 x16_3 x24_3).f2⟩ : S94)) (k94_mkM _ _ _ (⟨(⟨#[115, 112, 111, 105, 108, 116]⟩ : ByteArray), (rd_T94 x16_3 x24_3).f1, (rd_T94 x16_3 x24_3).f2⟩ : S94) ) (fun _ hk => hk)
            have hx62_0 := hcc62 0 _ rfl
            (try simp only [show (k94).sz = 3 from rfl, Nat.mul_one, Nat.add_zero] at hx62_0)
            have hf62_0 := hfr62 0
            (try simp only [show (k94).sz = 3 from rfl, Nat.mul_one, Nat.add_zero] at hf62_0)
            clear hcl62 hcc62 hfr62 hM62
            go_wp2_with (first | ((with_reducible refine gate_store (t := 9) (p := 144) rfl ?_); refine store_event (t := 9) (p := 144) (v := ?vo_w63) (w1 := (wr.setCell ⟨go60, (x24_3 : Int).toNat * 3, none⟩ (.string (⟨#[115, 112, 111, 105, 108, 116]⟩ : ByteArray)))) ?hg ?ho ?hn ?hr ?_; (case ho => rfl); (case hg => rfl); (case hn => rfl); (case hr => first | (go_simp; done) | (go_simp; rfl)); intro w63 hw; have hg : wr.grownBy w63 (some go60) := (by rw [hw]; exact HP62.2); have hp_ : Kd.R k94 94 w63 w.heap.size (fun k_ => some k_ ≠ (.slice Ao15 t219.length co15 : Value).ownBlock) (.slice (some ⟨go60, 0, none⟩) x16_3.length co61) y257 := (by rw [hw, Ny257.out]; exact HP62.1); clear HP62; have n0_ := Aside0.mk (Kd.R_after (v := (.slice (some ⟨go60, 0, none⟩) x16_3.length co61)) (v1 := (.slice (some ⟨go60, 0, none⟩) x16_3.length co61)) (ok := (fun _ => True)) (by (with_reducible repeat (first | apply Kd.R_alloc | apply Kd.R_drewN | apply Kd.R_drew)); exact Kd.R_mono HO_7.out (fun _ hk => ⟨trivial, hk⟩)) hg (.inl rfl)); have n1_ := Aside0.mk (hp_); have n2_ := Aside0.mk ((by rw [hw]; exact below_set (HB.out) GB60.out : Below w.heap.size w w63)); clear HO_7; clear HO_16; clear HB; have HO_7 := n0_; have HO_16 := n1_; have HB := n2_; clear n0_ n1_ n2_; clear hg hw hp_))
            go_roundg k3
            case measure => have := HJ12.out; have := HJ38.out; have := HK3.out; omega
            case rel => exact ⟨(y257), (wrap64 (x24_3 + 1)), (by first | rfl | (simp; done) | (simp [*]; done)), H', ⟨by have := HJ12.out; have := HJ38.out; have := HK3.out; omega⟩, ⟨by (with_reducible repeat (first | apply Kd.R_alloc | apply Kd.R_drewN | apply Kd.R_drew)); exact Kd.R_mono HO_7.out (fun _ hk => hk.2)⟩, ⟨by (with_reducible repeat (first | apply Kd.R_alloc | apply Kd.R_drewN | apply Kd.R_drew)); exact HO_16.out⟩, ⟨by repeat (first | (with_reducible first | exact HB.out | apply below_alloc | apply pw_below_drewN | apply below_drew1) | exact HB.out)⟩⟩
           ·rw [if_neg c59] at H
            exact absurd H (by simp)
          ·rw [if_neg c58] at H
           have c58b0 : decide (x24_3 < (x16_3.length : Int)) = false := decide_eq_false c58
           clear c58
           replace H := Option.bind_eq_some_iff.mp H
           obtain ⟨t258, A640, H⟩ := H
           replace H : (if t258 = true then ((musterlaw14_awake.f k3).bind fun t259 => (some t259)) else (some false)) = some r := H
           have A64 := Aside0.mk A640
           clear A640
           by_cases c65 : t258 = true
           ·subst c65
            have H1 : ((musterlaw14_awake.f k3).bind fun t259 => (some t259)) = some r := by rw [if_pos rfl] at H; exact H
            clear H
            have H := H1
            clear H1
            replace H := Option.bind_eq_some_iff.mp H
            obtain ⟨t259, A660, H⟩ := H
            replace H : (some t259) = some r := H
            have A66 := Aside0.mk A660
            clear A660
            obtain rfl := Option.some.inj H
            obtain ⟨Ao67, co67, eo67⟩ := Kd.R_slice HO_16.out
            subst eo67
            go_wp2_with (first | ((with_reducible refine gate_callee (f := 69) rfl ?_); refine goesL_ (some 147) rfl rfl Try.func69 (by kernel_rfl) rfl #[.slice Ao15 t219.length co15, .slice A0 l0.length c0] rfl (by (try simp only [List.map_toArray, List.map_cons, List.map_nil]); first | done | rfl | (simp only [List.length_drop, List.length_take]; rfl)) ?_; (with_reducible refine (musterkit_SameAccounts.calls k3 _ _ t219 _ _ l0 true _ ?side1 ?side2 ?side3 ?side4 A64.out).mono ?_); (case side1 => repeat (first | exact (Kd.R_reads' HO_7.out).2.2 | (with_reducible refine Kd.C_alloc ?_ _) | (with_reducible refine Kd.C_drewN ?_ _) | (with_reducible refine Kd.C_drew ?_))); (case side2 => exact (Kd.R_reads' HO_7.out).2.1); (case side3 => repeat (first | exact (Kd.C_below HR0.out HB.out) | (with_reducible refine Kd.C_alloc ?_ _) | (with_reducible refine Kd.C_drewN ?_ _) | (with_reducible refine Kd.C_drew ?_))); (case side4 => exact HC0.out); rintro e w' ⟨rfl, ⟨nd, rfl⟩⟩; refine ⟨_, rfl, ?_⟩) | (go_at_call 70; (with_reducible refine (musterlaw14_awake.calls k3  t259 _ A66.out).mono ?_); rintro e w68 ⟨rfl, hb⟩; have n0_ := Aside0.mk (Kd.R_below (by (with_reducible repeat (first | apply Kd.R_alloc | apply Kd.R_drewN | apply Kd.R_drew)); exact HO_7.out) hb); have n1_ := Aside0.mk (Kd.R_below (by (with_reducible repeat (first | apply Kd.R_alloc | apply Kd.R_drewN | apply Kd.R_drew)); exact HO_16.out) hb); have n2_ := Aside0.mk (below_step (by repeat (first | (with_reducible first | exact HB.out | apply below_alloc | apply pw_below_drewN | apply below_drew1) | exact HB.out)) hb); clear HO_7; clear HO_16; clear HB; have HO_7 := n0_; have HO_16 := n1_; have HB := n2_; clear n0_ n1_ n2_; (try clear hb); (try clear hb2); (try clear hk); (try clear hi)))
            go_ret
            exact ⟨by first | rfl | (simp [errW_none, errW_some] <;> rfl) | (simp [*, errW_none, errW_some] <;> rfl), by repeat (first | (with_reducible first | exact HB.out | apply below_alloc | apply pw_below_drewN | apply below_drew1) | exact HB.out)⟩
           ·replace c65 := Bool.eq_false_iff.mpr c65
            subst c65
            have H1 : (some false) = some r := by rw [if_neg (show ¬ (false = true) by decide)] at H; exact H
            clear H
            have H := H1
            clear H1
            obtain rfl := Option.some.inj H
            obtain ⟨Ao69, co69, eo69⟩ := Kd.R_slice HO_16.out
            subst eo69
            go_wp2_with (first | ((with_reducible refine gate_callee (f := 69) rfl ?_); refine goesL_ (some 147) rfl rfl Try.func69 (by kernel_rfl) rfl #[.slice Ao15 t219.length co15, .slice A0 l0.length c0] rfl (by (try simp only [List.map_toArray, List.map_cons, List.map_nil]); first | done | rfl | (simp only [List.length_drop, List.length_take]; rfl)) ?_; (with_reducible refine (musterkit_SameAccounts.calls k3 _ _ t219 _ _ l0 false _ ?side1 ?side2 ?side3 ?side4 A64.out).mono ?_); (case side1 => repeat (first | exact (Kd.R_reads' HO_7.out).2.2 | (with_reducible refine Kd.C_alloc ?_ _) | (with_reducible refine Kd.C_drewN ?_ _) | (with_reducible refine Kd.C_drew ?_))); (case side2 => exact (Kd.R_reads' HO_7.out).2.1); (case side3 => repeat (first | exact (Kd.C_below HR0.out HB.out) | (with_reducible refine Kd.C_alloc ?_ _) | (with_reducible refine Kd.C_drewN ?_ _) | (with_reducible refine Kd.C_drew ?_))); (case side4 => exact HC0.out); rintro e w' ⟨rfl, ⟨nd, rfl⟩⟩; refine ⟨_, rfl, ?_⟩))
            go_ret
            exact ⟨by first | rfl | (simp [errW_none, errW_some] <;> rfl) | (simp [*, errW_none, errW_some] <;> rfl), by repeat (first | (with_reducible first | exact HB.out | apply below_alloc | apply pw_below_drewN | apply below_drew1) | exact HB.out)⟩

end Go.Proofs.Ythcikldhlohjbaa.PT
