/- awake of musterlaw18. (A part of the print PJ.) -/
import Derived.Test.YthcikldhlohjbaaJobG
set_option linter.unusedVariables false
set_option linter.unusedSimpArgs false
namespace Go.Proofs.Ythcikldhlohjbaa.PJ
open Go.RowKit Go.Proofs.YthcikldhlohjbaaW.PrintWords Go.Proofs.YthcikldhlohjbaaW.PrintLast Go.Proofs.YthcikldhlohjbaaW.PrintMore Go.Proofs.Ythcikldhlohjbaa.Ones
def spA : S38 := ⟨⟨#[]⟩, ⟨#[]⟩, ⟨#[]⟩, ⟨#[]⟩, 2, 3, 10, []⟩
def aX0 : S43 := ⟨1, 0, 0, spA, 1, 5, 0, 0, 0, 0⟩
def aX1 : S43 := ⟨1, 0, 0, spA, 2, 5, 7, 0, 3, 0⟩
def aX2 : S43 := ⟨1, 0, 0, spA, 3, 5, 7, 9, 3, 0⟩
def aX3 : S43 := ⟨1, 0, 0, spA, 4, 5, 7, 9, 3, 1⟩
theorem aB1 : beginJ aX0 3 7 = (aX1, 0) := by kernel_rfl
theorem aB2 : beginJ aX0 1 7 = (z43, 2) := by kernel_rfl
theorem aF1 : finishJ aX1 3 9 9 = (aX2, 0) := by kernel_rfl
theorem aF2 : finishJ aX2 6 0 9 = (z43, 180) := by kernel_rfl
theorem aF3 : finishJ aX1 4 0 9 = (aX3, 0) := by kernel_rfl
theorem aF4 : finishJ aX0 3 0 9 = (z43, 180) := by kernel_rfl
theorem aE1 : endJ aX1 = 17 := by kernel_rfl
theorem aR0 : rightJ aX0 = true := by kernel_rfl
theorem aO2 : overS 3 = true := by kernel_rfl
theorem u32ok_lit (n : Int) (h0 : 0 ≤ n) (h1 : n < 4294967296) : u32ok n := ⟨h0, h1⟩
theorem aJ0 : JOk aX0 := ⟨⟨by decide, by decide⟩, by decide⟩
theorem aJ1 : JOk aX1 := ⟨⟨by decide, by decide⟩, by decide⟩
theorem aJ2 : JOk aX2 := ⟨⟨by decide, by decide⟩, by decide⟩
set_option maxRecDepth 100000 in
set_option maxHeartbeats 4000000 in
theorem awake18_calls (w : World) : Calls Try.prog 49 #[] w fun e w' => e = .returned (.bool true) ∧ Below w.heap.size w w' := by
  have hE : Kd.C k104 w none spA.f7.length spA.f7 := Kd.C_nil _ w
  have HM := Lib.hid (make_calls 1 spA 5 (by decide) none 0 w (Nat.le_refl _) hE)
  clear hE
  go_enter Try.func49, Try.ntmps49
  go_wp2_with fail
  refine HM.out.mono ?_
  rintro e w1 ⟨A0, c0, he, hv, hb⟩
  have V0 : Hid (JV w1 aX0 A0 c0) := Lib.hid hv
  replace he : e = .returned (.agg #[.int .i64 aX0.f0, .int .i64 aX0.f1, .int .i64 aX0.f2, .string aX0.f3.f0, .string aX0.f3.f1, .string aX0.f3.f2, .string aX0.f3.f3, .int .i64 aX0.f3.f4, .int .i64 aX0.f3.f5, .int .i64 aX0.f3.f6, .slice A0 aX0.f3.f7.length c0, .int .u8 aX0.f4, .int .i64 aX0.f5, .int .i64 aX0.f6, .int .i64 aX0.f7, .int .u32 aX0.f8, .int .i64 aX0.f9]) := he
  subst he
  clear hv HM
  go_upto_region 2 with (fail)
  generalize hWD : w1.alloc (.cells _ 43) = W1
  obtain ⟨b1, hbd⟩ : ∃ b, b = w1.heap.size := ⟨_, rfl⟩
  rw [← hbd]
  have K0 : Hid (JBox W1 b1 aX0 A0 c0) := Lib.hid (by rw [← hWD, hbd]; exact blk_new _ _)
  have hk : Below w1.heap.size w1 W1 := by rw [← hWD]; exact below_alloc (Below.refl _ _) _
  replace V0 := Lib.hid (V0.out.keep hk)
  have HB : Hid (Below w.heap.size w W1) := Lib.hid (below_then hb hb.size hk)
  clear hWD hbd hb hk
  as_aux_lemma =>
  have hld := K0.out.load
  go_wp2_with ((with_reducible refine gate_ (.load 43 (.tmp 1)) rfl ?_); refine wl_load 43 (.tmp 1) rfl rfl _ _ rfl hld ?_)
  refine (begin_calls 7 aJ0 (u32ok_lit 3 (by decide) (by decide)) A0 c0 _ V0.out).mono ?_
  rintro e w2 ⟨A1, c1, he, hv, hb⟩
  rw [aB1] at he hv
  replace he : e = .returned (.tuple #[.agg #[.int .i64 aX1.f0, .int .i64 aX1.f1, .int .i64 aX1.f2, .string aX1.f3.f0, .string aX1.f3.f1, .string aX1.f3.f2, .string aX1.f3.f3, .int .i64 aX1.f3.f4, .int .i64 aX1.f3.f5, .int .i64 aX1.f3.f6, .slice A1 aX1.f3.f7.length c1, .int .u8 aX1.f4, .int .i64 aX1.f5, .int .i64 aX1.f6, .int .i64 aX1.f7, .int .u32 aX1.f8, .int .i64 aX1.f9], .int .i64 0]) := he
  subst he
  clear hld
  go_upto_region 3 with (fail)
  generalize hWD : w2.alloc (.cells _ 43) = W2
  obtain ⟨b2, hbd⟩ : ∃ b, b = w2.heap.size := ⟨_, rfl⟩
  rw [← hbd]
  have hk : Below w2.heap.size w2 W2 := by rw [← hWD]; exact below_alloc (Below.refl _ _) _
  have K1 : Hid (JBox W2 b2 aX1 A1 c1) := Lib.hid (by rw [← hWD, hbd]; exact blk_new _ _)
  have V1 : Hid (JV W2 aX1 A1 c1) := Lib.hid (hv.keep hk)
  replace hk : Below W1.heap.size W1 W2 := below_then hb hb.size hk
  replace K0 := Lib.hid (K0.out.keep hk)
  replace V0 := Lib.hid (V0.out.keep hk)
  replace HB := Lib.hid (below_then HB.out HB.out.size hk)
  clear hWD hbd hb hk hv
  as_aux_lemma =>
  have hld := K0.out.load
  go_wp2_with ((with_reducible refine gate_ (.load 43 (.tmp 1)) rfl ?_); refine wl_load 43 (.tmp 1) rfl rfl _ _ rfl hld ?_)
  refine (begin_calls 7 aJ0 (u32ok_lit 1 (by decide) (by decide)) A0 c0 _ V0.out).mono ?_
  rintro e w3 ⟨A, c, he, hv, hb⟩
  rw [aB2] at he hv
  replace he : e = .returned (.tuple #[.agg #[.int .i64 z43.f0, .int .i64 z43.f1, .int .i64 z43.f2, .string z43.f3.f0, .string z43.f3.f1, .string z43.f3.f2, .string z43.f3.f3, .int .i64 z43.f3.f4, .int .i64 z43.f3.f5, .int .i64 z43.f3.f6, .slice A z43.f3.f7.length c, .int .u8 z43.f4, .int .i64 z43.f5, .int .i64 z43.f6, .int .i64 z43.f7, .int .u32 z43.f8, .int .i64 z43.f9], .int .i64 2]) := he
  subst he
  clear hld
  go_upto_region 4 with (fail)
  generalize hWD : w3.alloc (.cells _ 43) = W3
  obtain ⟨b3, hbd⟩ : ∃ b, b = w3.heap.size := ⟨_, rfl⟩
  rw [← hbd]
  have hk : Below w3.heap.size w3 W3 := by rw [← hWD]; exact below_alloc (Below.refl _ _) _
  replace hk : Below W2.heap.size W2 W3 := below_then hb hb.size hk
  replace K0 := Lib.hid (K0.out.keep hk)
  replace V0 := Lib.hid (V0.out.keep hk)
  replace K1 := Lib.hid (K1.out.keep hk)
  replace V1 := Lib.hid (V1.out.keep hk)
  replace HB := Lib.hid (below_then HB.out HB.out.size hk)
  clear hWD hbd hb hk hv
  as_aux_lemma =>
  have hld := K1.out.load
  go_wp2_with ((with_reducible refine gate_ (.load 43 (.tmp 2)) rfl ?_); refine wl_load 43 (.tmp 2) rfl rfl _ _ rfl hld ?_)
  refine (finish_calls 3 9 9 aJ1 A1 c1 _ V1.out).mono ?_
  rintro e w4 ⟨A2, c2, he, hv, hb⟩
  rw [aF1] at he hv
  replace he : e = .returned (.tuple #[.agg #[.int .i64 aX2.f0, .int .i64 aX2.f1, .int .i64 aX2.f2, .string aX2.f3.f0, .string aX2.f3.f1, .string aX2.f3.f2, .string aX2.f3.f3, .int .i64 aX2.f3.f4, .int .i64 aX2.f3.f5, .int .i64 aX2.f3.f6, .slice A2 aX2.f3.f7.length c2, .int .u8 aX2.f4, .int .i64 aX2.f5, .int .i64 aX2.f6, .int .i64 aX2.f7, .int .u32 aX2.f8, .int .i64 aX2.f9], .int .i64 0]) := he
  subst he
  clear hld
  go_upto_region 5 with (fail)
  generalize hWD : w4.alloc (.cells _ 43) = W4
  obtain ⟨b4, hbd⟩ : ∃ b, b = w4.heap.size := ⟨_, rfl⟩
  rw [← hbd]
  have hk : Below w4.heap.size w4 W4 := by rw [← hWD]; exact below_alloc (Below.refl _ _) _
  have K2 : Hid (JBox W4 b4 aX2 A2 c2) := Lib.hid (by rw [← hWD, hbd]; exact blk_new _ _)
  have V2 : Hid (JV W4 aX2 A2 c2) := Lib.hid (hv.keep hk)
  replace hk : Below W3.heap.size W3 W4 := below_then hb hb.size hk
  replace K0 := Lib.hid (K0.out.keep hk)
  replace V0 := Lib.hid (V0.out.keep hk)
  replace K1 := Lib.hid (K1.out.keep hk)
  replace V1 := Lib.hid (V1.out.keep hk)
  replace HB := Lib.hid (below_then HB.out HB.out.size hk)
  clear hWD hbd hb hk hv
  as_aux_lemma =>
  have hld := K2.out.load
  go_wp2_with ((with_reducible refine gate_ (.load 43 (.tmp 6)) rfl ?_); refine wl_load 43 (.tmp 6) rfl rfl _ _ rfl hld ?_)
  refine (finish_calls 6 0 9 aJ2 A2 c2 _ V2.out).mono ?_
  rintro e w5 ⟨A, c, he, hv, hb⟩
  rw [aF2] at he hv
  replace he : e = .returned (.tuple #[.agg #[.int .i64 z43.f0, .int .i64 z43.f1, .int .i64 z43.f2, .string z43.f3.f0, .string z43.f3.f1, .string z43.f3.f2, .string z43.f3.f3, .int .i64 z43.f3.f4, .int .i64 z43.f3.f5, .int .i64 z43.f3.f6, .slice A z43.f3.f7.length c, .int .u8 z43.f4, .int .i64 z43.f5, .int .i64 z43.f6, .int .i64 z43.f7, .int .u32 z43.f8, .int .i64 z43.f9], .int .i64 180]) := he
  subst he
  clear hld
  go_upto_region 6 with (fail)
  generalize hWD : w5.alloc (.cells _ 43) = W5
  obtain ⟨b5, hbd⟩ : ∃ b, b = w5.heap.size := ⟨_, rfl⟩
  rw [← hbd]
  have hk : Below w5.heap.size w5 W5 := by rw [← hWD]; exact below_alloc (Below.refl _ _) _
  replace hk : Below W4.heap.size W4 W5 := below_then hb hb.size hk
  replace K0 := Lib.hid (K0.out.keep hk)
  replace V0 := Lib.hid (V0.out.keep hk)
  replace K1 := Lib.hid (K1.out.keep hk)
  replace V1 := Lib.hid (V1.out.keep hk)
  replace K2 := Lib.hid (K2.out.keep hk)
  replace V2 := Lib.hid (V2.out.keep hk)
  replace HB := Lib.hid (below_then HB.out HB.out.size hk)
  clear hWD hbd hb hk hv
  as_aux_lemma =>
  have hld := K1.out.load
  go_wp2_with ((with_reducible refine gate_ (.load 43 (.tmp 2)) rfl ?_); refine wl_load 43 (.tmp 2) rfl rfl _ _ rfl hld ?_)
  refine (finish_calls 4 0 9 aJ1 A1 c1 _ V1.out).mono ?_
  rintro e w6 ⟨A3, c3, he, hv, hb⟩
  rw [aF3] at he hv
  replace he : e = .returned (.tuple #[.agg #[.int .i64 aX3.f0, .int .i64 aX3.f1, .int .i64 aX3.f2, .string aX3.f3.f0, .string aX3.f3.f1, .string aX3.f3.f2, .string aX3.f3.f3, .int .i64 aX3.f3.f4, .int .i64 aX3.f3.f5, .int .i64 aX3.f3.f6, .slice A3 aX3.f3.f7.length c3, .int .u8 aX3.f4, .int .i64 aX3.f5, .int .i64 aX3.f6, .int .i64 aX3.f7, .int .u32 aX3.f8, .int .i64 aX3.f9], .int .i64 0]) := he
  subst he
  clear hld
  go_upto_region 7 with (fail)
  generalize hWD : w6.alloc (.cells _ 43) = W6
  obtain ⟨b6, hbd⟩ : ∃ b, b = w6.heap.size := ⟨_, rfl⟩
  rw [← hbd]
  have hk : Below w6.heap.size w6 W6 := by rw [← hWD]; exact below_alloc (Below.refl _ _) _
  have K3 : Hid (JBox W6 b6 aX3 A3 c3) := Lib.hid (by rw [← hWD, hbd]; exact blk_new _ _)
  have V3 : Hid (JV W6 aX3 A3 c3) := Lib.hid (hv.keep hk)
  replace hk : Below W5.heap.size W5 W6 := below_then hb hb.size hk
  replace K0 := Lib.hid (K0.out.keep hk)
  replace V0 := Lib.hid (V0.out.keep hk)
  replace K1 := Lib.hid (K1.out.keep hk)
  replace V1 := Lib.hid (V1.out.keep hk)
  replace K2 := Lib.hid (K2.out.keep hk)
  replace V2 := Lib.hid (V2.out.keep hk)
  replace HB := Lib.hid (below_then HB.out HB.out.size hk)
  clear hWD hbd hb hk hv
  as_aux_lemma =>
  have hld := K0.out.load
  go_wp2_with ((with_reducible refine gate_ (.load 43 (.tmp 1)) rfl ?_); refine wl_load 43 (.tmp 1) rfl rfl _ _ rfl hld ?_)
  refine (finish_calls 3 0 9 aJ0 A0 c0 _ V0.out).mono ?_
  rintro e w7 ⟨A, c, he, hv, hb⟩
  rw [aF4] at he hv
  replace he : e = .returned (.tuple #[.agg #[.int .i64 z43.f0, .int .i64 z43.f1, .int .i64 z43.f2, .string z43.f3.f0, .string z43.f3.f1, .string z43.f3.f2, .string z43.f3.f3, .int .i64 z43.f3.f4, .int .i64 z43.f3.f5, .int .i64 z43.f3.f6, .slice A z43.f3.f7.length c, .int .u8 z43.f4, .int .i64 z43.f5, .int .i64 z43.f6, .int .i64 z43.f7, .int .u32 z43.f8, .int .i64 z43.f9], .int .i64 180]) := he
  subst he
  clear hld
  go_upto_region 8 with (fail)
  generalize hWD : w7.alloc (.cells _ 43) = W7
  obtain ⟨b7, hbd⟩ : ∃ b, b = w7.heap.size := ⟨_, rfl⟩
  rw [← hbd]
  have hk : Below w7.heap.size w7 W7 := by rw [← hWD]; exact below_alloc (Below.refl _ _) _
  replace hk : Below W6.heap.size W6 W7 := below_then hb hb.size hk
  replace K0 := Lib.hid (K0.out.keep hk)
  replace V0 := Lib.hid (V0.out.keep hk)
  replace K1 := Lib.hid (K1.out.keep hk)
  replace V1 := Lib.hid (V1.out.keep hk)
  replace K2 := Lib.hid (K2.out.keep hk)
  replace V2 := Lib.hid (V2.out.keep hk)
  replace K3 := Lib.hid (K3.out.keep hk)
  replace V3 := Lib.hid (V3.out.keep hk)
  replace HB := Lib.hid (below_then HB.out HB.out.size hk)
  clear hWD hbd hb hk hv
  as_aux_lemma =>
  have g1 : W7.cell? ⟨b1, 11, none⟩ = some (.int .u8 1) := K0.out.cell 11 rfl
  have hld := K1.out.load
  go_wp2_with ((with_reducible refine gate_ (.load 43 (.tmp 2)) rfl ?_); refine wl_loadG 43 (.tmp 2) rfl (by rfl) _ _ rfl hld ?_)
  refine (end_calls aX1 A1 c1 _ V1.out).mono ?_
  rintro e y1 ⟨he, hb⟩
  rw [aE1] at he
  subst he
  replace K0 := Lib.hid (K0.out.keep hb)
  replace V0 := Lib.hid (V0.out.keep hb)
  replace K2 := Lib.hid (K2.out.keep hb)
  replace K3 := Lib.hid (K3.out.keep hb)
  replace HB := Lib.hid (below_then HB.out HB.out.size hb)
  clear hb hld g1 K1 V1
  have g2 : y1.cell? ⟨b4, 14, none⟩ = some (.int .i64 9) := K2.out.cell 14 rfl
  have g3 : y1.cell? ⟨b4, 16, none⟩ = some (.int .i64 0) := K2.out.cell 16 rfl
  have g4 : y1.cell? ⟨b6, 16, none⟩ = some (.int .i64 1) := K3.out.cell 16 rfl
  as_aux_lemma =>
  have hld := K0.out.load
  go_wp2_with ((with_reducible refine gate_ (.load 43 (.tmp 1)) rfl ?_); refine wl_loadG 43 (.tmp 1) rfl (by rfl) _ _ rfl hld ?_)
  refine (right_calls aX0 A0 c0 _ aJ0.1 V0.out.2 V0.out.1).mono ?_
  rintro e y2 ⟨he, hb⟩
  rw [aR0] at he
  subst he
  replace K2 := Lib.hid (K2.out.keep hb)
  replace HB := Lib.hid (below_then HB.out HB.out.size hb)
  clear hb hld g2 g3 g4 K0 V0 K3
  as_aux_lemma =>
  have g5 : y2.cell? ⟨b4, 11, none⟩ = some (.int .u8 3) := K2.out.cell 11 rfl
  go_wp2_with fail
  refine (over_calls 3 _).mono ?_
  rintro e y3 ⟨he, hb⟩
  rw [aO2] at he
  subst he
  replace HB := Lib.hid (below_then HB.out HB.out.size hb)
  clear hb g5
  go_wp2
  go_ret
  exact ⟨rfl, HB.out⟩
end Go.Proofs.Ythcikldhlohjbaa.PJ
