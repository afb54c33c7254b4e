/- The walk of the law SumsTells: for any sum and bytes all calls answer as the document defines. -/
import Derived.Test.YtnipddabgedoaaaSumsAwake
import Derived.Test.YtnipddabgedoaaaLow
set_option linter.unusedVariables false
set_option linter.unusedSimpArgs false
namespace Go.Proofs.Ytnipddabgedoaaa.Sums
open Go.RowKit Go.Proofs.YtnipddabgedoaaaW.PrintWords Go.Proofs.YtnipddabgedoaaaW.PrintLast Go.Proofs.YtnipddabgedoaaaW.PrintMore

theorem refMore_nil (A : Option Addr) (c : Nat) (l : List Int) (w : World) (hr : Kd.C (Kd.int .u8) w A l.length l) (hb : ∀ x ∈ l, 0 ≤ x ∧ x ≤ 255) (hl : l.length ≤ 140737488351232) :
    Calls Try.prog 35 #[.int .u32 0, .slice A l.length c] w fun e w' => e = .returned (w32 (more 0#32 l)) ∧ w = w' := refMore_calls 0#32 A c l w hr hb hl

set_option maxHeartbeats 2000000 in
set_option maxRecDepth 100000 in
theorem tells_law (s : BitVec 32) (A0 : Option Addr) (c0 : Nat) (b : List Int) (w : World) (hr : Kd.C (Kd.int .u8) w A0 b.length b) (hl : b.length ≤ 140737488351232) (hb : ∀ x ∈ b, 0 ≤ x ∧ x ≤ 255) :
    Calls Try.prog 8 #[w32 s, .slice A0 b.length c0] w fun e w' => e = .returned (.bool true) ∧ Below w.heap.size w w' := by
  have HR := Lib.hid hr
  have HB := Lib.hid hb
  clear hr hb
  by_cases h : 20000 < b.length
  · go_enter Try.func8, Try.ntmps8
    go_wp2_with fail
    refine (awake_calls _).mono ?_
    rintro e w1 ⟨rfl, hb⟩
    have HZ := Lib.hid hb
    clear hb
    go_wp2
    go_ret
    exact ⟨rfl, HZ.out⟩
  · go_enter Try.func8, Try.ntmps8
    go_wp2_with fail
    refine (Low.lent_calls A0 c0 b w HR.out (by omega)).mono ?_
    rintro e w1 ⟨ad, cap, rfl, hL, hb⟩
    have HL := Lib.hid hL
    have HW := Lib.hid hb
    clear hb hL
    go_wp2_with fail
    refine (crc_calls (some ad) cap b w1 HL.out.reads HB.out hl).mono ?_
    rintro e w2 ⟨rfl, hb⟩
    replace HL := Lib.hid (HL.out.below hb)
    replace HW := Lib.hid (below_then HW.out HW.out.size hb)
    clear hb
    go_wp2_with fail
    refine (refMore_nil A0 c0 b w2 (Kd.C_below HR.out HW.out) HB.out hl).mono ?_
    rintro e _ ⟨rfl, rfl⟩
    go_wp2_with fail
    refine (more_calls s (some ad) cap b w2 HL.out.reads HB.out hl).mono ?_
    rintro e w3 ⟨rfl, hb⟩
    replace HL := Lib.hid (HL.out.below hb)
    replace HW := Lib.hid (below_then HW.out HW.out.size hb)
    clear hb
    go_wp2_with fail
    refine (refMore_calls s A0 c0 b w3 (Kd.C_below HR.out HW.out) HB.out hl).mono ?_
    rintro e _ ⟨rfl, rfl⟩
    go_wp2_with fail
    refine (adler_calls (some ad) cap b w3 HL.out.reads HB.out hl).mono ?_
    rintro e _ ⟨rfl, rfl⟩
    go_wp2_with fail
    refine (refAdler_calls A0 c0 b w3 (Kd.C_below HR.out HW.out) HB.out hl).mono ?_
    rintro e _ ⟨rfl, rfl⟩
    go_wp2_with fail
    refine (Low.kept_calls ad cap A0 c0 b w3 HL.out (Kd.C_below HR.out HW.out) HB.out (by omega)).mono ?_
    rintro e w4 ⟨rfl, hd⟩
    replace HW := Lib.hid (below_then HW.out HW.out.size hd.below)
    clear hd
    go_wp2_with fail
    refine (awake_calls _).mono ?_
    rintro e w5 ⟨rfl, hb⟩
    have HZ := Lib.hid (below_then HW.out HW.out.size hb)
    clear hb
    go_wp2
    go_ret
    exact ⟨rfl, HZ.out⟩
end Go.Proofs.Ytnipddabgedoaaa.Sums
