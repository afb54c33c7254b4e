/- The chapter's fixed examples. (Written by gnum.py.) -/
import Derived.Test.YtfggcdpipolahaaFiMany
import Derived.Test.YtfggcdpipolahaaFiAwake
import Derived.Test.YtfggcdpipolahaaOctAdd
set_option linter.unusedVariables false
set_option linter.unusedSimpArgs false
namespace Go.Proofs.Ytfggcdpipolahaa.PF
open Go.RowKit Go.Proofs.YtfggcdpipolahaaW.PrintWords Go.Proofs.YtfggcdpipolahaaW.PrintLast Go.Proofs.YtfggcdpipolahaaW.PrintMore
attribute [local go_sem] max2_int min2_int max_two min_two
def nd1 : ADk := (ADk.new.append 0 [97, 98, 99]).1
def nd2 : ADk := nd1.sync.1
def nd3 : ADk := (nd2.cutTo 0 1).1
def nd4 : ADk := (nd3.append 1 [120]).1
def nx1 : ADk := (nd4.crash 1 9).1
def ny1 : ADk := (nd4.crash 0 9).1
def nv1 : ADk := (ADk.new.armed 1).1
def nv2 : ADk := (nv1.append 2 [113]).1
def nv3 : ADk := nv2.sync.1
def nv4 : ADk := (nv3.crash 9 0).1
def nv5 : ADk := (nv4.failing 0 4).1
def nv6 : ADk := nv5.sync.1
def nv7 : ADk := nv6.sync.1
def nv8 : ADk := (nv7.cutTo 2 1).1
def nv9 (Z : List Int) : ADk := (nv8.does ⟨1, false, 0, Z⟩).1
def nv10 (Z : List Int) : ADk := ((nv9 Z).does ⟨1, false, 0, []⟩).1
def nv11 (Z : List Int) : ADk := ((nv10 Z).does ⟨1, true, 0, []⟩).1
def nv12 (Z : List Int) : ADk := ((nv11 Z).does ⟨1, false, 0, [1]⟩).1
def nv13 (Z : List Int) : ADk := ((nv12 Z).armed 0).1
def nv14 (Z : List Int) : ADk := ((nv13 Z).failing 0 4).1
def nv15 (Z : List Int) : ADk := (nv14 Z).sync.1
def nv16 (Z : List Int) : ADk := ((nv15 Z).crash 0 0).1
def nv17 (Z : List Int) : ADk := (nv16 Z).sync.1
theorem nd0_1 : ADk.new.append 0 [97, 98, 99] = (nd1, 0) := rfl
theorem nd1_2 : nd1.sync = (nd2, 0) := rfl
theorem nd2_3 : nd2.cutTo 0 1 = (nd3, 0) := rfl
theorem nd3_4 : nd3.append 1 [120] = (nd4, 0) := rfl
theorem nx0_1 : nd4.crash 1 9 = (nx1, 0) := rfl
theorem ny0_1 : nd4.crash 0 9 = (ny1, 0) := rfl
theorem nx1_0 : nx1.read 0 = ([97], 0) := rfl
theorem nx1_1 : nx1.read 1 = ([120], 0) := rfl
theorem ny1_0 : ny1.read 0 = ([97, 98, 99], 0) := rfl
theorem ny1_1 : ny1.read 1 = ([], 0) := rfl
theorem nv0_1 : ADk.new.armed 1 = (nv1, 0) := rfl
theorem nv1_2 : nv1.append 2 [113] = (nv2, 0) := rfl
theorem nv2_3 : nv2.sync = (nv3, 6) := rfl
theorem nv3_r : nv3.read 2 = ([], 6) := rfl
theorem nv3_d : nv3.durable 2 = ([], 0) := rfl
theorem nv3_4 : nv3.crash 9 0 = (nv4, 0) := rfl
theorem nv4_r : nv4.read 2 = ([113], 0) := rfl
theorem nv4_5 : nv4.failing 0 4 = (nv5, 0) := rfl
theorem nv5_6 : nv5.sync = (nv6, 4) := rfl
theorem nv6_7 : nv6.sync = (nv7, 0) := rfl
theorem nv7_a : nv7.append 3 [] = (nv7, 2) := rfl
theorem nv7_b : nv7.append (-1) [] = (nv7, 2) := rfl
theorem nv7_c : nv7.cutTo 0 1 = (nv7, 2) := rfl
theorem nv7_d : nv7.cutTo 2 (-1) = (nv7, 2) := rfl
theorem nv7_8 : nv7.cutTo 2 1 = (nv8, 0) := rfl
theorem nv8_a : nv8.failing 0 2 = (nv8, 2) := rfl
theorem nv8_b : nv8.failing (-1) 4 = (nv8, 2) := rfl
theorem nv8_c : nv8.armed (-1) = (nv8, 2) := rfl
theorem nv8_d : nv8.crash (-1) 0 = (nv8, 2) := rfl
theorem nv8_e : nv8.crash 0 (-1) = (nv8, 2) := rfl
theorem nv8_9 {Z : List Int} (hZ : Z.length = 1048576) : nv8.append 1 Z = (nv9 Z, 0) := by
  unfold ADk.append
  rw [if_pos (by decide), if_neg (by show ¬ 1048576 < 0 + Z.length; omega)]
  rfl
theorem nv9_len {Z : List Int} (hZ : Z.length = 1048576) : ((nv9 Z).now.get 1).length = 1048576 := by
  show ([] ++ Z.take Z.length).length = 1048576
  rw [List.nil_append, List.length_take]
  omega
theorem nv9_a {Z : List Int} (hZ : Z.length = 1048576) : (nv9 Z).append 1 [1] = (nv9 Z, 5) := by
  unfold ADk.append
  rw [if_pos (by decide), if_pos (by show 1048576 < ((nv9 Z).now.get 1).length + 1; rw [nv9_len hZ]; omega)]
theorem nv9_10 {Z : List Int} (hZ : Z.length = 1048576) : (nv9 Z).append 1 [] = (nv10 Z, 0) := by
  unfold ADk.append
  rw [if_pos (by decide), if_neg (by show ¬ 1048576 < ((nv9 Z).now.get 1).length + 0; rw [nv9_len hZ]; omega)]
  rfl
theorem nv10_11 (Z : List Int) : (nv10 Z).cutTo 1 0 = (nv11 Z, 0) := by
  unfold ADk.cutTo
  rw [if_pos (by decide), if_neg (by omega)]
  rfl
theorem nv11_12 (Z : List Int) : (nv11 Z).append 1 [1] = (nv12 Z, 0) := by
  unfold ADk.append
  rw [if_pos (by decide), if_neg (by show ¬ 1048576 < 0 + 1; omega)]
  rfl
theorem nv12_13 (Z : List Int) : (nv12 Z).armed 0 = (nv13 Z, 0) := rfl
theorem nv13_14 (Z : List Int) : (nv13 Z).failing 0 4 = (nv14 Z, 0) := rfl
theorem nv14_15 (Z : List Int) : (nv14 Z).sync = (nv15 Z, 6) := rfl
theorem nv15_16 (Z : List Int) : (nv15 Z).crash 0 0 = (nv16 Z, 0) := rfl
theorem nv16_17 (Z : List Int) : (nv16 Z).sync = (nv17 Z, 0) := rfl
theorem nv17_r (Z : List Int) : (nv17 Z).read 3 = ([], 2) := rfl
theorem nv17_d (Z : List Int) : (nv17 Z).durable (-1) = ([], 2) := rfl
theorem made_at (u : World) (n : Nat) (hn : n ≤ 2000000) : (Instr.makeSlice 24 (.int .i64 n) (.int .i64 n)).run Try.prog u = .ok (.slice (some ⟨u.heap.size, 0, none⟩) n n) (u.alloc (.cells (madeCells #[.int .u8 0] n) 5)) := by
  obtain ⟨i0, hi, hz0, hz1, hz2⟩ := info_parts Low.info8
  have hmk := run_make (P := Try.prog) u 24 5 i0 (.int .u8 0) Try.underlying24 hi hz0 .i64 .i64 n n (by omega) (by omega) (by rw [hz2]; omega) (by omega)
  rw [hz1, Int.toNat_natCast, Nat.mul_one] at hmk
  exact hmk
theorem appendZ {w0 w : World} {ok : Nat → Prop} {F : Nat → Option ADk} {b : Nat} {a a' : ADk} {n : Nat} {z : Int} (h : Disks w0 w ok F n) (hF : F b = some a) {Z : List Int} {k : Nat} (hk : Z.length = k) (hr : a.append 1 Z = (a', z)) (hn : n ≤ 1099511627776) {A : Option Addr} (hx : k = k → Kd.C ku8 w A Z.length Z) (hkl : k ≤ 4398046511104) :
    Calls Try.prog 11 #[.pointer (some ⟨b, 0, none⟩), .int .i64 1, .slice A k k] w (ToldM w0 w ok F b a' (n + 1) z) := by
  subst hk
  exact h.append hF 1 A Z Z.length hr hn (hx rfl) (Nat.le_refl _) hkl
set_option maxRecDepth 100000 in
set_option maxHeartbeats 32000000 in
theorem numbers_law (w : World) : Calls Try.prog 6 #[] w fun e w' => e = .returned (.bool true) ∧ Below w.heap.size w w' := by
  have kc := fun (w : World) (C : Array Value) (n c : Nat) => Lib.run_convert_bytes_const (P := Try.prog) w 24 5 C n c Try.underlying24 Try.underlying5
  have hmA : ∀ u : World, (Instr.makeSlice 24 (.int .i64 1048576) (.int .i64 1048576)).run Try.prog u = .ok (.slice (some ⟨u.heap.size, 0, none⟩) 1048576 1048576) (u.alloc (.cells (madeCells #[.int .u8 0] 1048576) 5)) := fun u => made_at u 1048576 (by omega)
  obtain ⟨Z, HZ⟩ : ∃ Z : List Int, Hid (Z.length = 1048576 ∧ ∀ u : World, Kd.C ku8 (u.alloc (.cells (madeCells #[.int .u8 0] 1048576) 5)) (some ⟨u.heap.size, 0, none⟩) Z.length Z) := ⟨List.replicate 1048576 0, Lib.hid ⟨List.length_replicate, fun u => (Kd.R_reads' (Oct.made_row u 1048576 1048576 (Nat.le_refl _) (by unfold maxLen; omega))).2.2⟩⟩
  go_enter Try.func6, Try.ntmps6
  have HD := Lib.hid (Disks.none_ w 0)
  go_wp2_with fail
  refine (HD.out.new).mono ?_
  rintro e w1 ⟨b1, rfl, F1, hD, hb, hr, hk⟩
  have HFb1 := Lib.hid hb
  replace HD := Lib.hid hD
  clear hD hb hr hk
  go_wp2_with fail
  refine ((HD.out.below (below_alloc (Below.refl _ _) _)).append HFb1.out 0 _ [97, 98, 99] _ nd0_1 (by decide) (Low.const_reads w1 [97, 98, 99] (3, 4) (by decide)) (Nat.le_refl _) (by decide)).mono ?_
  rintro e w2 ⟨rfl, F2, hD, hb, hr, hk, _⟩
  replace HFb1 := Lib.hid hb
  replace HD := Lib.hid (hD.mono (ok' := fun _ => True) (fun _ _ => trivial))
  clear hD hb hr hk
  go_wp2_with fail
  refine (HD.out.sync HFb1.out nd1_2).mono ?_
  rintro e w3 ⟨rfl, F3, hD, hb, hr, hk, _⟩
  replace HFb1 := Lib.hid hb
  replace HD := Lib.hid (hD.mono (ok' := fun _ => True) (fun _ _ => trivial))
  clear hD hb hr hk
  go_wp2_with fail
  refine (HD.out.cut HFb1.out 0 1 nd2_3 (by decide)).mono ?_
  rintro e w4 ⟨rfl, F4, hD, hb, hr, hk, _⟩
  replace HFb1 := Lib.hid hb
  replace HD := Lib.hid (hD.mono (ok' := fun _ => True) (fun _ _ => trivial))
  clear hD hb hr hk
  go_wp2_with fail
  refine ((HD.out.below (below_alloc (Below.refl _ _) _)).append HFb1.out 1 _ [120] _ nd3_4 (by decide) (Low.const_reads w4 [120] (1, 2) (by decide)) (Nat.le_refl _) (by decide)).mono ?_
  rintro e w5 ⟨rfl, F5, hD, hb, hr, hk, _⟩
  replace HFb1 := Lib.hid hb
  replace HD := Lib.hid (hD.mono (ok' := fun _ => True) (fun _ _ => trivial))
  clear hD hb hr hk
  go_wp2_with fail
  refine (HD.out.copy HFb1.out (by decide)).mono ?_
  rintro e w6 ⟨b2, rfl, F6, hD, hb, hr, hk⟩
  have HNb1b2 := Lib.hid (hr b1 _ HFb1.out).1
  replace HFb1 := Lib.hid (hr b1 _ HFb1.out).2
  have HFb2 := Lib.hid hb
  replace HD := Lib.hid hD
  clear hD hb hr hk
  go_wp2_with fail
  refine (HD.out.copy HFb1.out (by decide)).mono ?_
  rintro e w7 ⟨b3, rfl, F7, hD, hb, hr, hk⟩
  have HNb1b3 := Lib.hid (hr b1 _ HFb1.out).1
  replace HFb1 := Lib.hid (hr b1 _ HFb1.out).2
  have HNb2b3 := Lib.hid (hr b2 _ HFb2.out).1
  replace HFb2 := Lib.hid (hr b2 _ HFb2.out).2
  have HFb3 := Lib.hid hb
  replace HD := Lib.hid hD
  clear hD hb hr hk
  go_wp2_with fail
  refine (HD.out.crash HFb2.out 1 9 nx0_1).mono ?_
  rintro e w8 ⟨rfl, F8, hD, hb, hr, hk, _⟩
  replace HFb1 := Lib.hid ((hr b1 HNb1b2.out).trans HFb1.out)
  replace HFb3 := Lib.hid ((hr b3 (fun e => HNb2b3.out e.symm)).trans HFb3.out)
  replace HFb2 := Lib.hid hb
  replace HD := Lib.hid (hD.mono (ok' := fun _ => True) (fun _ _ => trivial))
  clear hD hb hr hk
  go_wp2_with fail
  refine (HD.out.crash HFb3.out 0 9 ny0_1).mono ?_
  rintro e w9 ⟨rfl, F9, hD, hb, hr, hk, _⟩
  replace HFb1 := Lib.hid ((hr b1 HNb1b3.out).trans HFb1.out)
  replace HFb2 := Lib.hid ((hr b2 HNb2b3.out).trans HFb2.out)
  replace HFb3 := Lib.hid hb
  replace HD := Lib.hid (hD.mono (ok' := fun _ => True) (fun _ _ => trivial))
  clear hD hb hr hk
  go_wp2_with fail
  refine (HD.out.read HFb2.out 0 nx1_0 (by decide)).mono ?_
  rintro e w10 ⟨Aa, ca, he, hR, hk⟩
  replace he : e = .returned (.tuple #[.slice Aa 1 ca, .int .i64 0]) := he
  subst he
  have HRa := Lib.hid hR
  replace HD := Lib.hid (HD.out.below hk)
  clear hR hk
  go_wp2_with fail
  refine (HD.out.read HFb2.out 1 nx1_1 (by decide)).mono ?_
  rintro e w11 ⟨Ab, cb, he, hR, hk⟩
  replace he : e = .returned (.tuple #[.slice Ab 1 cb, .int .i64 0]) := he
  subst he
  replace HRa := Lib.hid (Kd.R_below HRa.out hk)
  have HRb := Lib.hid hR
  replace HD := Lib.hid (HD.out.below hk)
  clear hR hk
  go_wp2_with fail
  refine (HD.out.read HFb3.out 0 ny1_0 (by decide)).mono ?_
  rintro e w12 ⟨Ac, cc, he, hR, hk⟩
  replace he : e = .returned (.tuple #[.slice Ac 3 cc, .int .i64 0]) := he
  subst he
  replace HRa := Lib.hid (Kd.R_below HRa.out hk)
  replace HRb := Lib.hid (Kd.R_below HRb.out hk)
  have HRc := Lib.hid hR
  replace HD := Lib.hid (HD.out.below hk)
  clear hR hk
  go_wp2_with fail
  refine (HD.out.read HFb3.out 1 ny1_1 (by decide)).mono ?_
  rintro e w13 ⟨Az, cz, he, hR, hk⟩
  replace he : e = .returned (.tuple #[.slice Az 0 cz, .int .i64 0]) := he
  subst he
  replace HRa := Lib.hid (Kd.R_below HRa.out hk)
  replace HRb := Lib.hid (Kd.R_below HRb.out hk)
  replace HRc := Lib.hid (Kd.R_below HRc.out hk)
  have HRz := Lib.hid hR
  replace HD := Lib.hid (HD.out.below hk)
  clear hR hk
  have hsa : (convert 24 9 (.slice Aa 1 ca)).run Try.prog w13 = .ok (.string ⟨#[97]⟩) w13 := str_of HRa.out (by decide)
  have hsb : (convert 24 9 (.slice Ab 1 cb)).run Try.prog w13 = .ok (.string ⟨#[120]⟩) w13 := str_of HRb.out (by decide)
  have hsc : (convert 24 9 (.slice Ac 3 cc)).run Try.prog w13 = .ok (.string ⟨#[97, 98, 99]⟩) w13 := str_of HRc.out (by decide)
  go_wp2_with fail
  refine (HD.out.pending HFb1.out (m := 2) rfl).mono ?_
  rintro e w14 ⟨rfl, rfl⟩
-- DROP1
  go_wp2_with fail
  refine (HD.out.new).mono ?_
  rintro e w14 ⟨b4, rfl, F14, hD, hb, hr, hk⟩
  clear hsa hsb hsc HRa HRb HRc HRz HFb1 HFb2 HFb3 HNb1b2 HNb1b3 HNb2b3 hr hk
  have HFb4 := Lib.hid hb
  replace HD := Lib.hid hD
  clear hD hb
  go_wp2_with fail
  refine (HD.out.arm HFb4.out 1 nv0_1).mono ?_
  rintro e w15 ⟨rfl, F15, hD, hb, hr, hk, _⟩
  replace HFb4 := Lib.hid hb
  replace HD := Lib.hid (hD.mono (ok' := fun _ => True) (fun _ _ => trivial))
  clear hD hb hr hk
  go_wp2_with fail
  refine ((HD.out.below (below_alloc (Below.refl _ _) _)).append HFb4.out 2 _ [113] _ nv1_2 (by decide) (Low.const_reads w15 [113] (1, 2) (by decide)) (Nat.le_refl _) (by decide)).mono ?_
  rintro e w16 ⟨rfl, F16, hD, hb, hr, hk, _⟩
  replace HFb4 := Lib.hid hb
  replace HD := Lib.hid (hD.mono (ok' := fun _ => True) (fun _ _ => trivial))
  clear hD hb hr hk
  go_wp2_with fail
  refine (HD.out.sync HFb4.out nv2_3).mono ?_
  rintro e w17 ⟨rfl, F17, hD, hb, hr, hk, _⟩
  replace HFb4 := Lib.hid hb
  replace HD := Lib.hid (hD.mono (ok' := fun _ => True) (fun _ _ => trivial))
  clear hD hb hr hk
  go_wp2_with fail
  refine (HD.out.read HFb4.out 2 nv3_r (by decide)).mono ?_
  rintro e w18 ⟨Al, cl, he, hR, hk⟩
  replace he : e = .returned (.tuple #[.slice Al 0 cl, .int .i64 6]) := he
  subst he
  have HRl := Lib.hid hR
  replace HD := Lib.hid (HD.out.below hk)
  clear hR hk
  go_wp2_with fail
  refine (HD.out.durable HFb4.out 2 nv3_d).mono ?_
  rintro e w19 ⟨Au, cu, he, hR, hk⟩
  replace he : e = .returned (.tuple #[.slice Au 0 cu, .int .i64 0]) := he
  subst he
  replace HRl := Lib.hid (Kd.R_below HRl.out hk)
  have HRu := Lib.hid hR
  replace HD := Lib.hid (HD.out.below hk)
  clear hR hk
  go_wp2_with fail
  refine (HD.out.crash HFb4.out 9 0 nv3_4).mono ?_
  rintro e w20 ⟨rfl, F20, hD, hb, hr, hk, _⟩
  replace HFb4 := Lib.hid hb
  replace HD := Lib.hid (hD.mono (ok' := fun _ => True) (fun _ _ => trivial))
  replace HRl := Lib.hid (hk _ _ _ _ HRl.out)
  replace HRu := Lib.hid (hk _ _ _ _ HRu.out)
  clear hD hb hr hk
  go_wp2_with fail
  refine (HD.out.read HFb4.out 2 nv4_r (by decide)).mono ?_
  rintro e w21 ⟨Av, cv, he, hR, hk⟩
  replace he : e = .returned (.tuple #[.slice Av 1 cv, .int .i64 0]) := he
  subst he
  replace HRl := Lib.hid (Kd.R_below HRl.out hk)
  replace HRu := Lib.hid (Kd.R_below HRu.out hk)
  have HRv := Lib.hid hR
  replace HD := Lib.hid (HD.out.below hk)
  clear hR hk
  have hsv : (convert 24 9 (.slice Av 1 cv)).run Try.prog w21 = .ok (.string ⟨#[113]⟩) w21 := str_of HRv.out (by decide)
  go_wp2_with fail
  refine (HD.out.fail HFb4.out 0 4 nv4_5).mono ?_
  rintro e w22 ⟨rfl, F22, hD, hb, hr, hk, _⟩
  replace HFb4 := Lib.hid hb
  replace HD := Lib.hid (hD.mono (ok' := fun _ => True) (fun _ _ => trivial))
  replace HRl := Lib.hid (hk _ _ _ _ HRl.out)
  replace HRu := Lib.hid (hk _ _ _ _ HRu.out)
  replace HRv := Lib.hid (hk _ _ _ _ HRv.out)
  clear hD hb hr hk
  clear hsv
  clear HRl HRu HRv
  go_wp2_with fail
  refine (HD.out.sync HFb4.out nv5_6).mono ?_
  rintro e w23 ⟨rfl, F23, hD, hb, hr, hk, _⟩
  replace HFb4 := Lib.hid hb
  replace HD := Lib.hid (hD.mono (ok' := fun _ => True) (fun _ _ => trivial))
  clear hD hb hr hk
  go_wp2_with fail
  refine (HD.out.sync HFb4.out nv6_7).mono ?_
  rintro e w24 ⟨rfl, F24, hD, hb, hr, hk, _⟩
  replace HFb4 := Lib.hid hb
  replace HD := Lib.hid (hD.mono (ok' := fun _ => True) (fun _ _ => trivial))
  clear hD hb hr hk
  go_wp2_with fail
  refine (HD.out.append HFb4.out 3 none [] 0 nv7_a (by decide) (Kd.C_nil _ _) (Nat.le_refl _) (by decide)).mono ?_
  rintro e w25 ⟨rfl, F25, hD, hb, hr, hk, _⟩
  replace HFb4 := Lib.hid hb
  replace HD := Lib.hid (hD.mono (ok' := fun _ => True) (fun _ _ => trivial))
  clear hD hb hr hk
  go_wp2_with fail
  refine (HD.out.append HFb4.out (-1) none [] 0 nv7_b (by decide) (Kd.C_nil _ _) (Nat.le_refl _) (by decide)).mono ?_
  rintro e w26 ⟨rfl, F26, hD, hb, hr, hk, _⟩
  replace HFb4 := Lib.hid hb
  replace HD := Lib.hid (hD.mono (ok' := fun _ => True) (fun _ _ => trivial))
  clear hD hb hr hk
  go_wp2_with fail
  refine (HD.out.cut HFb4.out 0 1 nv7_c (by decide)).mono ?_
  rintro e w27 ⟨rfl, F27, hD, hb, hr, hk, _⟩
  replace HFb4 := Lib.hid hb
  replace HD := Lib.hid (hD.mono (ok' := fun _ => True) (fun _ _ => trivial))
  clear hD hb hr hk
  go_wp2_with fail
  refine (HD.out.cut HFb4.out 2 (-1) nv7_d (by decide)).mono ?_
  rintro e w28 ⟨rfl, F28, hD, hb, hr, hk, _⟩
  replace HFb4 := Lib.hid hb
  replace HD := Lib.hid (hD.mono (ok' := fun _ => True) (fun _ _ => trivial))
  clear hD hb hr hk
  go_wp2_with fail
  refine (HD.out.cut HFb4.out 2 1 nv7_8 (by decide)).mono ?_
  rintro e w29 ⟨rfl, F29, hD, hb, hr, hk, _⟩
  replace HFb4 := Lib.hid hb
  replace HD := Lib.hid (hD.mono (ok' := fun _ => True) (fun _ _ => trivial))
  clear hD hb hr hk
  go_wp2_with fail
  refine (HD.out.fail HFb4.out 0 2 nv8_a).mono ?_
  rintro e w30 ⟨rfl, F30, hD, hb, hr, hk, _⟩
  replace HFb4 := Lib.hid hb
  replace HD := Lib.hid (hD.mono (ok' := fun _ => True) (fun _ _ => trivial))
  clear hD hb hr hk
  go_wp2_with fail
  refine (HD.out.fail HFb4.out (-1) 4 nv8_b).mono ?_
  rintro e w31 ⟨rfl, F31, hD, hb, hr, hk, _⟩
  replace HFb4 := Lib.hid hb
  replace HD := Lib.hid (hD.mono (ok' := fun _ => True) (fun _ _ => trivial))
  clear hD hb hr hk
  go_wp2_with fail
  refine (HD.out.arm HFb4.out (-1) nv8_c).mono ?_
  rintro e w32 ⟨rfl, F32, hD, hb, hr, hk, _⟩
  replace HFb4 := Lib.hid hb
  replace HD := Lib.hid (hD.mono (ok' := fun _ => True) (fun _ _ => trivial))
  clear hD hb hr hk
  go_wp2_with fail
  refine (HD.out.crash HFb4.out (-1) 0 nv8_d).mono ?_
  rintro e w33 ⟨rfl, F33, hD, hb, hr, hk, _⟩
  replace HFb4 := Lib.hid hb
  replace HD := Lib.hid (hD.mono (ok' := fun _ => True) (fun _ _ => trivial))
  clear hD hb hr hk
  go_wp2_with fail
  refine (HD.out.crash HFb4.out 0 (-1) nv8_e).mono ?_
  rintro e w34 ⟨rfl, F34, hD, hb, hr, hk, _⟩
  replace HFb4 := Lib.hid hb
  replace HD := Lib.hid (hD.mono (ok' := fun _ => True) (fun _ _ => trivial))
  clear hD hb hr hk
  go_wp2_with fail
  refine (appendZ (HD.out.below (below_alloc (Below.refl _ _) _)) HFb4.out HZ.out.1 (nv8_9 HZ.out.1) (by decide) (fun _ => HZ.out.2 w34) (by decide)).mono ?_
  rintro e w35 ⟨rfl, F35, hD, hb, hr, hk, _⟩
  replace HFb4 := Lib.hid hb
  replace HD := Lib.hid (hD.mono (ok' := fun _ => True) (fun _ _ => trivial))
  clear hD hb hr hk
  go_wp2_with fail
  refine ((HD.out.below (below_alloc (Below.refl _ _) _)).append HFb4.out 1 _ [1] _ (nv9_a HZ.out.1) (by decide) (Low.const_reads w35 [1] (0, 0) (by decide)) (Nat.le_refl _) (by decide)).mono ?_
  rintro e w36 ⟨rfl, F36, hD, hb, hr, hk, _⟩
  replace HFb4 := Lib.hid hb
  replace HD := Lib.hid (hD.mono (ok' := fun _ => True) (fun _ _ => trivial))
  clear hD hb hr hk
  go_wp2_with fail
  refine (HD.out.append HFb4.out 1 none [] 0 (nv9_10 HZ.out.1) (by decide) (Kd.C_nil _ _) (Nat.le_refl _) (by decide)).mono ?_
  rintro e w37 ⟨rfl, F37, hD, hb, hr, hk, _⟩
  replace HFb4 := Lib.hid hb
  replace HD := Lib.hid (hD.mono (ok' := fun _ => True) (fun _ _ => trivial))
  clear hD hb hr hk
  go_wp2_with fail
  refine (HD.out.cut HFb4.out 1 0 (nv10_11 Z) (by decide)).mono ?_
  rintro e w38 ⟨rfl, F38, hD, hb, hr, hk, _⟩
  replace HFb4 := Lib.hid hb
  replace HD := Lib.hid (hD.mono (ok' := fun _ => True) (fun _ _ => trivial))
  clear hD hb hr hk
  go_wp2_with fail
  refine ((HD.out.below (below_alloc (Below.refl _ _) _)).append HFb4.out 1 _ [1] _ (nv11_12 Z) (by decide) (Low.const_reads w38 [1] (0, 0) (by decide)) (Nat.le_refl _) (by decide)).mono ?_
  rintro e w39 ⟨rfl, F39, hD, hb, hr, hk, _⟩
  replace HFb4 := Lib.hid hb
  replace HD := Lib.hid (hD.mono (ok' := fun _ => True) (fun _ _ => trivial))
  clear hD hb hr hk
  go_wp2_with fail
  refine (HD.out.arm HFb4.out 0 (nv12_13 Z)).mono ?_
  rintro e w40 ⟨rfl, F40, hD, hb, hr, hk, _⟩
  replace HFb4 := Lib.hid hb
  replace HD := Lib.hid (hD.mono (ok' := fun _ => True) (fun _ _ => trivial))
  clear hD hb hr hk
  go_wp2_with fail
  refine (HD.out.fail HFb4.out 0 4 (nv13_14 Z)).mono ?_
  rintro e w41 ⟨rfl, F41, hD, hb, hr, hk, _⟩
  replace HFb4 := Lib.hid hb
  replace HD := Lib.hid (hD.mono (ok' := fun _ => True) (fun _ _ => trivial))
  clear hD hb hr hk
  go_wp2_with fail
  refine (HD.out.sync HFb4.out (nv14_15 Z)).mono ?_
  rintro e w42 ⟨rfl, F42, hD, hb, hr, hk, _⟩
  replace HFb4 := Lib.hid hb
  replace HD := Lib.hid (hD.mono (ok' := fun _ => True) (fun _ _ => trivial))
  clear hD hb hr hk
  go_wp2_with fail
  refine (HD.out.crash HFb4.out 0 0 (nv15_16 Z)).mono ?_
  rintro e w43 ⟨rfl, F43, hD, hb, hr, hk, _⟩
  replace HFb4 := Lib.hid hb
  replace HD := Lib.hid (hD.mono (ok' := fun _ => True) (fun _ _ => trivial))
  clear hD hb hr hk
  go_wp2_with fail
  refine (HD.out.sync HFb4.out (nv16_17 Z)).mono ?_
  rintro e w44 ⟨rfl, F44, hD, hb, hr, hk, _⟩
  replace HFb4 := Lib.hid hb
  replace HD := Lib.hid (hD.mono (ok' := fun _ => True) (fun _ _ => trivial))
  clear hD hb hr hk
  go_wp2_with fail
  refine (HD.out.read HFb4.out 3 (nv17_r Z) (by decide)).mono ?_
  rintro e w45 ⟨Ap, cp, he, hR, hk⟩
  replace he : e = .returned (.tuple #[.slice Ap 0 cp, .int .i64 2]) := he
  subst he
  have HRp := Lib.hid hR
  replace HD := Lib.hid (HD.out.below hk)
  clear hR hk
  go_wp2_with fail
  refine (HD.out.durable HFb4.out (-1) (nv17_d Z)).mono ?_
  rintro e w46 ⟨Aq, cq, he, hR, hk⟩
  replace he : e = .returned (.tuple #[.slice Aq 0 cq, .int .i64 2]) := he
  subst he
  replace HRp := Lib.hid (Kd.R_below HRp.out hk)
  have HRq := Lib.hid hR
  replace HD := Lib.hid (HD.out.below hk)
  clear hR hk
  go_wp2_with fail
  refine (awake_calls _).mono ?_
  rintro e w47 ⟨rfl, hk⟩
  have HB := Lib.hid (below_then HD.out.bel HD.out.bel.size hk)
  clear hk
  go_wp2
  go_ret
  exact ⟨rfl, HB.out⟩
end Go.Proofs.Ytfggcdpipolahaa.PF
