/- The walk of the law OctetsTells: for any bytes, text, place and number all calls answer as the document defines. Condition: so many bytes that what is put fits. -/
import Derived.Test.YtnipddabgedoaaaOctBack
set_option linter.unusedVariables false
set_option linter.unusedSimpArgs false
namespace Go.Proofs.Ytnipddabgedoaaa.Oct
open Go.RowKit Go.Proofs.YtnipddabgedoaaaW.PrintWords Go.Proofs.YtnipddabgedoaaaW.PrintMore

theorem addText_bytes {b : List Int} (hb : ∀ x ∈ b, 0 ≤ x ∧ x ≤ 255) (s : ByteArray) : ∀ x ∈ addText b s, 0 ≤ x ∧ x ≤ 255 := bytes_append (bytes_append hb (be_bytes _ _)) (bytesOf_bytes _)

set_option maxHeartbeats 8000000 in
set_option maxRecDepth 100000 in
theorem tells_law (A0 : Option Addr) (c0 : Nat) (b : List Int) (s : ByteArray) (i v : Int) (w : World) (hr : Kd.C (Kd.int .u8) w A0 b.length b) (hc : b.length ≤ c0) (hl : b.length ≤ 140737488200000) (hb : ∀ x ∈ b, 0 ≤ x ∧ x ≤ 255) (hi : I64 i) (hv0 : 0 ≤ v) (hv1 : v < 18446744073709551616) :
    Calls Try.prog 5 #[.slice A0 b.length c0, .string s, .int .i64 i, .int .u64 v] w fun e w' => e = .returned (.bool true) ∧ Below w.heap.size w w' := by
  have HR := Lib.hid hr
  have HB := Lib.hid hb
  have HI := Lib.hid hi
  have HV : Hid (v < 18446744073709551616) := hv1
  have r1 := nv_range b hb i 1
  have r2 := nv_range b hb i 2
  have r4 := nv_range b hb i 4
  have r8 := nv_range b hb i 8
  clear hr hb hv1 hi
  go_enter Try.func5, Try.ntmps5
  go_wp2_with fail
  refine (Low.lent_calls A0 c0 b w HR.out (by omega)).mono ?_
  rintro e w1 ⟨ad, cap, rfl, hL, hb1⟩
  have H1 := Lib.hid (u8_calls (some ad) cap b i w1 hL.reads HB.out (by omega) HI.out)
  have H2 := Lib.hid (u16_calls (some ad) cap b i w1 hL.reads HB.out (by omega) HI.out)
  have H4 := Lib.hid (u32_calls (some ad) cap b i w1 hL.reads HB.out (by omega) HI.out)
  have H8 := Lib.hid (u64_calls (some ad) cap b i w1 hL.reads HB.out (by omega) HI.out)
  have G1 := Lib.hid (refNumber_calls A0 c0 b i 1 w1 (Kd.C_below HR.out hb1) HB.out (by omega) (by decide) (by decide) HI.out.1 HI.out.2)
  have G2 := Lib.hid (refNumber_calls A0 c0 b i 2 w1 (Kd.C_below HR.out hb1) HB.out (by omega) (by decide) (by decide) HI.out.1 HI.out.2)
  have G4 := Lib.hid (refNumber_calls A0 c0 b i 4 w1 (Kd.C_below HR.out hb1) HB.out (by omega) (by decide) (by decide) HI.out.1 HI.out.2)
  have G8 := Lib.hid (refNumber_calls A0 c0 b i 8 w1 (Kd.C_below HR.out hb1) HB.out (by omega) (by decide) (by decide) HI.out.1 HI.out.2)
  have HL := Lib.hid hL
  have HW := Lib.hid hb1
  clear hb1 hL
  have T0 := Lib.hid (fun A c w hr hc => text_calls A c b i w hr hc HB.out (by omega) HI.out)
  have T1 := Lib.hid (fun A c w hr hc => refText_calls A c b i w hr hc HB.out (by omega) HI.out)
  unfold Texts at T0 T1
  generalize nv b i 1 = x1 at r1 H1 G1
  generalize nv b i 2 = x2 at r2 H2 G2
  generalize nv b i 4 = x4 at r4 H4 G4
  generalize nv b i 8 = x8 at r8 H8 G8
  generalize nok b i 1 = k1 at H1 G1
  generalize nok b i 2 = k2 at H2 G2
  generalize nok b i 4 = k4 at H4 G4
  generalize nok b i 8 = k8 at H8 G8
  have a1 : x1 < 256 := r1.2
  have a2 : x2 < 65536 := r2.2
  have a4 : x4 < 4294967296 := r4.2
  have b1 := r1.1
  have b2 := r2.1
  have b4 := r4.1
  clear r1 r2 r4 r8
  go_wp2_with fail
  refine H1.out.mono ?_
  rintro e _ ⟨rfl, rfl⟩
  go_wp2_with fail
  refine H2.out.mono ?_
  rintro e _ ⟨rfl, rfl⟩
  go_wp2_with fail
  refine H4.out.mono ?_
  rintro e _ ⟨rfl, rfl⟩
  go_wp2_with fail
  refine H8.out.mono ?_
  rintro e _ ⟨rfl, rfl⟩
  go_wp2_with fail
  refine G1.out.mono ?_
  rintro e _ ⟨rfl, rfl⟩
  go_wp2_with fail
  refine G2.out.mono ?_
  rintro e _ ⟨rfl, rfl⟩
  go_wp2_with fail
  refine G4.out.mono ?_
  rintro e _ ⟨rfl, rfl⟩
  go_wp2_with fail
  refine G8.out.mono ?_
  rintro e _ ⟨rfl, rfl⟩
  clear H1 H2 H4 H8 G1 G2 G4 G8
  go_wp2_with fail
  · skip
    refine (add8_calls (some ad) cap b (v % 256) _ HL.out.reads (by omega) (by omega) (by omega)).mono ?_
    rintro e wa h
    obtain ⟨Aa, ca, rfl, _, hCa, hba⟩ := h.read
    have HCa := Lib.hid hCa
    replace HL := Lib.hid (HL.out.below hba)
    replace HW := Lib.hid (below_then HW.out HW.out.size hba)
    obtain ⟨l1, h1⟩ : ∃ l1, l1 = b ++ be (v % 256) 1 := ⟨_, rfl⟩
    rw [← h1] at HCa ⊢
    have n1 := Lib.hid (show l1.length ≤ b.length + 8 by rw [h1, List.length_append, be_length]; omega)
    have B1 := Lib.hid (show ∀ y ∈ l1, 0 ≤ y ∧ y ≤ 255 by rw [h1]; exact bytes_append HB.out (be_bytes _ _))
    have E1 := Lib.hid h1
    clear h hCa hba h1
    go_wp2_with fail
    refine (refAdd_calls (v % 256) 1 A0 c0 b _ (by omega) (by omega) (by decide) (by decide) (Kd.C_below HR.out HW.out) (by omega)).mono ?_
    rintro e wb h
    obtain ⟨Ab, cb, rfl, _, hCb, hbb⟩ := h.read
    rw [← E1.out] at hCb ⊢
    have HCb := Lib.hid hCb
    replace HCa := Lib.hid (Kd.C_below HCa.out hbb)
    replace HL := Lib.hid (HL.out.below hbb)
    replace HW := Lib.hid (below_then HW.out HW.out.size hbb)
    clear h hCb hbb
    go_wp2_with fail
    refine (Low.same_calls Aa ca l1 Ab cb l1 _ HCa.out HCb.out B1.out B1.out).mono ?_
    rintro e wc ⟨rfl, hd⟩
    rw [decide_eq_true (rfl : l1 = l1)]
    replace HL := Lib.hid (HL.out.below hd.below)
    replace HW := Lib.hid (below_then HW.out HW.out.size hd.below)
    clear hd HCa HCb n1 B1 E1
    go_wp2_with fail
    refine (add16_calls (some ad) cap b (v % 65536) _ HL.out.reads (by omega) (by omega) (by omega)).mono ?_
    rintro e wa h
    obtain ⟨Aa, ca, rfl, _, hCa, hba⟩ := h.read
    have HCa := Lib.hid hCa
    replace HL := Lib.hid (HL.out.below hba)
    replace HW := Lib.hid (below_then HW.out HW.out.size hba)
    obtain ⟨l1, h1⟩ : ∃ l1, l1 = b ++ be (v % 65536) 2 := ⟨_, rfl⟩
    rw [← h1] at HCa ⊢
    have n1 := Lib.hid (show l1.length ≤ b.length + 8 by rw [h1, List.length_append, be_length]; omega)
    have B1 := Lib.hid (show ∀ y ∈ l1, 0 ≤ y ∧ y ≤ 255 by rw [h1]; exact bytes_append HB.out (be_bytes _ _))
    have E1 := Lib.hid h1
    clear h hCa hba h1
    go_wp2_with fail
    refine (refAdd_calls (v % 65536) 2 A0 c0 b _ (by omega) (by omega) (by decide) (by decide) (Kd.C_below HR.out HW.out) (by omega)).mono ?_
    rintro e wb h
    obtain ⟨Ab, cb, rfl, _, hCb, hbb⟩ := h.read
    rw [← E1.out] at hCb ⊢
    have HCb := Lib.hid hCb
    replace HCa := Lib.hid (Kd.C_below HCa.out hbb)
    replace HL := Lib.hid (HL.out.below hbb)
    replace HW := Lib.hid (below_then HW.out HW.out.size hbb)
    clear h hCb hbb
    go_wp2_with fail
    refine (Low.same_calls Aa ca l1 Ab cb l1 _ HCa.out HCb.out B1.out B1.out).mono ?_
    rintro e wc ⟨rfl, hd⟩
    rw [decide_eq_true (rfl : l1 = l1)]
    replace HL := Lib.hid (HL.out.below hd.below)
    replace HW := Lib.hid (below_then HW.out HW.out.size hd.below)
    clear hd HCa HCb n1 B1 E1
    go_wp2_with fail
    refine (add32_calls (some ad) cap b (v % 4294967296) _ HL.out.reads (by omega) (by omega) (by omega)).mono ?_
    rintro e wa h
    obtain ⟨Aa, ca, rfl, _, hCa, hba⟩ := h.read
    have HCa := Lib.hid hCa
    replace HL := Lib.hid (HL.out.below hba)
    replace HW := Lib.hid (below_then HW.out HW.out.size hba)
    obtain ⟨l1, h1⟩ : ∃ l1, l1 = b ++ be (v % 4294967296) 4 := ⟨_, rfl⟩
    rw [← h1] at HCa ⊢
    have n1 := Lib.hid (show l1.length ≤ b.length + 8 by rw [h1, List.length_append, be_length]; omega)
    have B1 := Lib.hid (show ∀ y ∈ l1, 0 ≤ y ∧ y ≤ 255 by rw [h1]; exact bytes_append HB.out (be_bytes _ _))
    have E1 := Lib.hid h1
    clear h hCa hba h1
    go_wp2_with fail
    refine (refAdd_calls (v % 4294967296) 4 A0 c0 b _ (by omega) (by omega) (by decide) (by decide) (Kd.C_below HR.out HW.out) (by omega)).mono ?_
    rintro e wb h
    obtain ⟨Ab, cb, rfl, _, hCb, hbb⟩ := h.read
    rw [← E1.out] at hCb ⊢
    have HCb := Lib.hid hCb
    replace HCa := Lib.hid (Kd.C_below HCa.out hbb)
    replace HL := Lib.hid (HL.out.below hbb)
    replace HW := Lib.hid (below_then HW.out HW.out.size hbb)
    clear h hCb hbb
    go_wp2_with fail
    refine (Low.same_calls Aa ca l1 Ab cb l1 _ HCa.out HCb.out B1.out B1.out).mono ?_
    rintro e wc ⟨rfl, hd⟩
    rw [decide_eq_true (rfl : l1 = l1)]
    replace HL := Lib.hid (HL.out.below hd.below)
    replace HW := Lib.hid (below_then HW.out HW.out.size hd.below)
    clear hd HCa HCb n1 B1 E1
    go_wp2_with fail
    refine (add64_calls (some ad) cap b v _ HL.out.reads (by omega) hv0 HV.out).mono ?_
    rintro e wa h
    obtain ⟨Aa, ca, rfl, _, hCa, hba⟩ := h.read
    have HCa := Lib.hid hCa
    replace HL := Lib.hid (HL.out.below hba)
    replace HW := Lib.hid (below_then HW.out HW.out.size hba)
    obtain ⟨l1, h1⟩ : ∃ l1, l1 = b ++ be v 8 := ⟨_, rfl⟩
    rw [← h1] at HCa ⊢
    have n1 := Lib.hid (show l1.length ≤ b.length + 8 by rw [h1, List.length_append, be_length]; omega)
    have B1 := Lib.hid (show ∀ y ∈ l1, 0 ≤ y ∧ y ≤ 255 by rw [h1]; exact bytes_append HB.out (be_bytes _ _))
    have E1 := Lib.hid h1
    clear h hCa hba h1
    go_wp2_with fail
    refine (refAdd_calls v 8 A0 c0 b _ hv0 HV.out (by decide) (by decide) (Kd.C_below HR.out HW.out) (by omega)).mono ?_
    rintro e wb h
    obtain ⟨Ab, cb, rfl, _, hCb, hbb⟩ := h.read
    rw [← E1.out] at hCb ⊢
    have HCb := Lib.hid hCb
    replace HCa := Lib.hid (Kd.C_below HCa.out hbb)
    replace HL := Lib.hid (HL.out.below hbb)
    replace HW := Lib.hid (below_then HW.out HW.out.size hbb)
    clear h hCb hbb
    go_wp2_with fail
    refine (Low.same_calls Aa ca l1 Ab cb l1 _ HCa.out HCb.out B1.out B1.out).mono ?_
    rintro e wc ⟨rfl, hd⟩
    rw [decide_eq_true (rfl : l1 = l1)]
    replace HL := Lib.hid (HL.out.below hd.below)
    replace HW := Lib.hid (below_then HW.out HW.out.size hd.below)
    clear hd HCa HCb n1 B1 E1
    go_wp2_with fail
    by_cases hs : s.size ≤ 65535
    · skip
      refine (addText_yes (some ad) cap b s _ HL.out.reads (by omega) hs).mono ?_
      rintro e wa ⟨va, rfl, ho, hba⟩
      obtain ⟨Aa, ca, hva, _, hCa⟩ := Kd.R_reads ho
      subst hva
      have HCa := Lib.hid hCa
      replace HL := Lib.hid (HL.out.below hba)
      replace HW := Lib.hid (below_then HW.out HW.out.size hba)
      obtain ⟨lt, h1⟩ : ∃ lt, lt = addText b s := ⟨_, rfl⟩
      rw [← h1] at HCa ⊢
      have B1 := Lib.hid (show ∀ y ∈ lt, 0 ≤ y ∧ y ≤ 255 by rw [h1]; exact addText_bytes HB.out s)
      have E1 := Lib.hid h1
      clear ho hCa hba h1
      go_wp2_with fail
      refine (refAddText_yes A0 c0 b s _ (Kd.C_below HR.out HW.out) (by omega) hs).mono ?_
      rintro e wb ⟨vb, rfl, ho, hbb⟩
      rw [← E1.out] at ho
      obtain ⟨Ab, cb, hvb, _, hCb⟩ := Kd.R_reads ho
      subst hvb
      have HCb := Lib.hid hCb
      replace HCa := Lib.hid (Kd.C_below HCa.out hbb)
      replace HL := Lib.hid (HL.out.below hbb)
      replace HW := Lib.hid (below_then HW.out HW.out.size hbb)
      clear ho hCb hbb
      go_wp2_with fail
      refine (T0.out (some ad) cap _ HL.out.reads (by have := HL.out.1; omega)).mono ?_
      rintro e _ ⟨rfl, rfl⟩
      go_wp2_with fail
      refine (T1.out A0 c0 _ (Kd.C_below HR.out HW.out) hc).mono ?_
      rintro e _ ⟨rfl, rfl⟩
      generalize strOfNums (txt b i) = tx at *
      generalize tend b i = te at *
      generalize tok b i = tk at *
      clear T0 T1
      go_wp2_with fail
      refine (Low.same_calls Aa ca lt Ab cb lt _ HCa.out HCb.out B1.out B1.out).mono ?_
      rintro e wc ⟨rfl, hd⟩
      rw [decide_eq_true (rfl : lt = lt)]
      replace HL := Lib.hid (HL.out.below hd.below)
      replace HW := Lib.hid (below_then HW.out HW.out.size hd.below)
      clear hd HCa HCb B1 E1
      go_wp2_with fail
      refine (Low.kept_calls ad cap A0 c0 b _ HL.out (Kd.C_below HR.out HW.out) HB.out (by omega)).mono ?_
      rintro e wk ⟨rfl, hd⟩
      replace HW := Lib.hid (below_then HW.out HW.out.size hd.below)
      clear hd
      go_wp2_with fail
      refine (awake_calls _).mono ?_
      rintro e w5 ⟨rfl, hb⟩
      have HZ := Lib.hid (below_then HW.out HW.out.size hb)
      clear hb
      go_wp2
      go_ret
      exact ⟨rfl, HZ.out⟩
    · skip
      refine (addText_no (some ad) cap b s _ (by omega)).mono ?_
      rintro e _ ⟨rfl, rfl⟩
      go_wp2_with fail
      refine (refAddText_no A0 c0 b s _ (by omega)).mono ?_
      rintro e _ ⟨rfl, rfl⟩
      go_wp2_with fail
      refine (T0.out (some ad) cap _ HL.out.reads (by have := HL.out.1; omega)).mono ?_
      rintro e _ ⟨rfl, rfl⟩
      go_wp2_with fail
      refine (T1.out A0 c0 _ (Kd.C_below HR.out HW.out) hc).mono ?_
      rintro e _ ⟨rfl, rfl⟩
      generalize strOfNums (txt b i) = tx at *
      generalize tend b i = te at *
      generalize tok b i = tk at *
      clear T0 T1
      go_wp2_with fail
      refine (Low.same_calls none 0 [] none 0 [] _ (Kd.C_nil _ _) (Kd.C_nil _ _) (by decide) (by decide)).mono ?_
      rintro e wc ⟨rfl, hd⟩
      rw [decide_eq_true (rfl : ([] : List Int) = [])]
      replace HL := Lib.hid (HL.out.below hd.below)
      replace HW := Lib.hid (below_then HW.out HW.out.size hd.below)
      clear hd
      go_wp2_with fail
      refine (Low.kept_calls ad cap A0 c0 b _ HL.out (Kd.C_below HR.out HW.out) HB.out (by omega)).mono ?_
      rintro e wk ⟨rfl, hd⟩
      replace HW := Lib.hid (below_then HW.out HW.out.size hd.below)
      clear hd
      go_wp2_with fail
      refine (awake_calls _).mono ?_
      rintro e w5 ⟨rfl, hb⟩
      have HZ := Lib.hid (below_then HW.out HW.out.size hb)
      clear hb
      go_wp2
      go_ret
      exact ⟨rfl, HZ.out⟩
end Go.Proofs.Ytnipddabgedoaaa.Oct
