/- The walk of the law OctetsBack: what is put behind bytes is read back where it was put. Condition: so many bytes that what is put fits. -/
import Derived.Test.YtnipddabgedoaaaOctAwake
import Derived.Test.YtnipddabgedoaaaOctPlain
set_option linter.unusedVariables false
set_option linter.unusedSimpArgs false
namespace Go.Proofs.Ytnipddabgedoaaa.Oct
open Go.RowKit Go.Proofs.YtnipddabgedoaaaW.PrintWords Go.Proofs.YtnipddabgedoaaaW.PrintMore

/-- New bytes, read. -/
def NewRead (w : World) (xs : List Int) (e : Ending) (w' : World) : Prop := ∃ A c, e = .returned (.slice A xs.length c) ∧ xs.length ≤ c ∧ Kd.C (Kd.int .u8) w' A xs.length xs ∧ Below w.heap.size w w'
theorem NewBytes.read {w : World} {xs : List Int} {e : Ending} {w' : World} (h : NewBytes w xs e w') : NewRead w xs e w' := by
  obtain ⟨v, rfl, ho, hb⟩ := h
  obtain ⟨A, c, rfl, hc, hC⟩ := Kd.R_reads ho
  exact ⟨A, c, rfl, hc, hC, hb⟩

theorem shr8 (x k : Int) (h : 0 ≤ x) (hk : 0 < k) : 0 ≤ x / k % 256 ∧ x / k % 256 < 256 := by omega

set_option maxHeartbeats 4000000 in
set_option maxRecDepth 100000 in
theorem back_law (A0 : Option Addr) (c0 : Nat) (b : List Int) (p q : ByteArray) (x : Int) (w : World) (hr : Kd.C (Kd.int .u8) w A0 b.length b) (hl : b.length ≤ 140737488200000) (hb : ∀ x ∈ b, 0 ≤ x ∧ x ≤ 255) (hx : 0 ≤ x) (hx1 : x < 18446744073709551616) :
    Calls Try.prog 6 #[.slice A0 b.length c0, .string p, .string q, .int .u64 x] w fun e w' => e = .returned (.bool true) ∧ Below w.heap.size w w' := by
  have HR := Lib.hid hr
  have HB := Lib.hid hb
  have HX : Hid (x < 18446744073709551616) := hx1
  clear hr hb hx1
  by_cases hp : 65535 < p.size
  · go_enter Try.func6, Try.ntmps6
    go_wp2_with fail
    refine (awake_calls _).mono ?_
    rintro e w1 ⟨rfl, hb⟩
    have HZ := Lib.hid hb
    clear hb
    go_wp2
    go_ret
    exact ⟨rfl, HZ.out⟩
  · by_cases hq : 65535 < q.size
    · go_enter Try.func6, Try.ntmps6
      go_wp2_with fail
      refine (awake_calls _).mono ?_
      rintro e w1 ⟨rfl, hb⟩
      have HZ := Lib.hid hb
      clear hb
      go_wp2
      go_ret
      exact ⟨rfl, HZ.out⟩
    · go_enter Try.func6, Try.ntmps6
      go_wp2_with fail
      have F := Lib.hid (back_facts b x p q HB.out hx HX.out (by omega) (by omega))
      have HL := Lib.hid (all6_length b x p q)
      have H4 := Lib.hid (all4_length b x)
      refine (add8_calls A0 c0 b (x / 2048 % 256) _ HR.out (by omega) (by omega) (by omega)).mono ?_
      rintro e w1 h
      obtain ⟨A1, c1, rfl, hc1, hC1, hb1⟩ := h.read
      have HC1 := Lib.hid hC1
      have HW := Lib.hid hb1
      obtain ⟨l1, h1⟩ : ∃ l1, l1 = b ++ be (x / 2048 % 256) 1 := ⟨_, rfl⟩
      rw [← h1] at HC1 ⊢
      have n1 : l1.length = b.length + 1 := by rw [h1, List.length_append, be_length]
      have E1 := Lib.hid h1
      have N1 := Lib.hid n1
      clear h hC1 hb1 h1 n1 hc1
      go_wp2_with fail
      refine (add16_calls A1 c1 l1 (x / 128 % 65536) _ HC1.out (by rw [N1.out]; omega) (by omega) (by omega)).mono ?_
      rintro e w2 h
      obtain ⟨A2, c2, rfl, hc2, hC2, hb2⟩ := h.read
      have HC2 := Lib.hid hC2
      replace HW := Lib.hid (below_then HW.out HW.out.size hb2)
      obtain ⟨l2, h2⟩ : ∃ l2, l2 = l1 ++ be (x / 128 % 65536) 2 := ⟨_, rfl⟩
      rw [← h2] at HC2 ⊢
      have n2 : l2.length = b.length + 3 := by rw [h2, List.length_append, be_length, N1.out]
      have E2 := Lib.hid h2
      have N2 := Lib.hid n2
      clear h hC2 hb2 h2 n2 hc2 HC1
      go_wp2_with fail
      refine (add32_calls A2 c2 l2 (x / 8 % 4294967296) _ HC2.out (by rw [N2.out]; omega) (by omega) (by omega)).mono ?_
      rintro e w3 h
      obtain ⟨A3, c3, rfl, hc3, hC3, hb3⟩ := h.read
      have HC3 := Lib.hid hC3
      replace HW := Lib.hid (below_then HW.out HW.out.size hb3)
      obtain ⟨l3, h3⟩ : ∃ l3, l3 = l2 ++ be (x / 8 % 4294967296) 4 := ⟨_, rfl⟩
      rw [← h3] at HC3 ⊢
      have n3 : l3.length = b.length + 7 := by rw [h3, List.length_append, be_length, N2.out]
      have E3 := Lib.hid h3
      have N3 := Lib.hid n3
      clear h hC3 hb3 h3 n3 hc3 HC2
      go_wp2_with fail
      refine (add64_calls A3 c3 l3 x _ HC3.out (by rw [N3.out]; omega) hx HX.out).mono ?_
      rintro e w4 h
      obtain ⟨A4, c4, rfl, hc4, hC4, hb4⟩ := h.read
      have HC4 := Lib.hid hC4
      replace HW := Lib.hid (below_then HW.out HW.out.size hb4)
      obtain ⟨l4, h4⟩ : ∃ l4, l4 = l3 ++ be x 8 := ⟨_, rfl⟩
      rw [← h4] at HC4 ⊢
      have n4 : l4.length = b.length + 15 := by rw [h4, List.length_append, be_length, N3.out]
      have E4 := Lib.hid (show l4 = all4 b x by rw [h4, E3.out, E2.out, E1.out]; rfl)
      have N4 := Lib.hid n4
      clear h hC4 hb4 h4 n4 hc4 HC3 E1 E2 E3 N1 N2 N3
      go_wp2_with fail
      refine (addText_yes A4 c4 l4 p _ HC4.out (by rw [N4.out]; omega) (by omega)).mono ?_
      rintro e w5 ⟨v5, rfl, ho, hb5⟩
      obtain ⟨A5, c5, hv5, hc5, hC5⟩ := Kd.R_reads ho
      subst hv5
      have HC5 := Lib.hid hC5
      replace HW := Lib.hid (below_then HW.out HW.out.size hb5)
      obtain ⟨l5, h5⟩ : ∃ l5, l5 = addText l4 p := ⟨_, rfl⟩
      rw [← h5] at HC5 ⊢
      have n5 : l5.length = b.length + 17 + p.size := by rw [h5]; unfold addText; rw [List.length_append, List.length_append, be_length, bytesOf_length, N4.out]
      have E5 := Lib.hid (show l5 = addText (all4 b x) p by rw [h5, E4.out])
      have N5 := Lib.hid n5
      clear ho hC5 hb5 h5 n5 hc5 HC4 E4 N4
      go_wp2_with fail
      refine (addText_yes A5 c5 l5 q _ HC5.out (by rw [N5.out]; omega) (by omega)).mono ?_
      rintro e w6 ⟨v6, rfl, ho, hb6⟩
      obtain ⟨A6, c6, hv6, hc6, hC6⟩ := Kd.R_reads ho
      subst hv6
      have HC6 := Lib.hid hC6
      replace HW := Lib.hid (below_then HW.out HW.out.size hb6)
      obtain ⟨l6, h6⟩ : ∃ l6, l6 = addText l5 q := ⟨_, rfl⟩
      rw [← h6] at HC6 hc6 ⊢
      have e6 : l6 = all6 b x p q := by rw [h6, E5.out]; rfl
      rw [← e6] at F HL
      clear ho hC6 hb6 h6 e6 HC5 E5 N5 H4
      have hl6 : l6.length ≤ 140737488355328 := by rw [HL.out]; omega
      go_wp2_with fail
      refine (u8_calls A6 c6 l6 b.length _ HC6.out F.out.bytes hl6 ⟨by omega, by omega⟩).mono ?_
      rintro e _ ⟨rfl, rfl⟩
      rw [F.out.k1, F.out.v1]
      go_wp2_with fail
      refine (u16_calls A6 c6 l6 ((b.length : Int) + 1) _ HC6.out F.out.bytes hl6 ⟨by omega, by omega⟩).mono ?_
      rintro e _ ⟨rfl, rfl⟩
      rw [F.out.k2, F.out.v2]
      go_wp2_with fail
      refine (u32_calls A6 c6 l6 ((b.length : Int) + 3) _ HC6.out F.out.bytes hl6 ⟨by omega, by omega⟩).mono ?_
      rintro e _ ⟨rfl, rfl⟩
      rw [F.out.k3, F.out.v3]
      go_wp2_with fail
      refine (u64_calls A6 c6 l6 ((b.length : Int) + 7) _ HC6.out F.out.bytes hl6 ⟨by omega, by omega⟩).mono ?_
      rintro e _ ⟨rfl, rfl⟩
      rw [F.out.k4, F.out.v4]
      go_wp2_with fail
      refine (text_calls A6 c6 l6 ((b.length : Int) + 15) _ HC6.out hc6 F.out.bytes hl6 ⟨by omega, by omega⟩).mono ?_
      rintro e _ ⟨rfl, rfl⟩
      rw [F.out.t1, F.out.t2, F.out.t3, bytesOf_str]
      go_wp2_with fail
      refine (text_calls A6 c6 l6 ((b.length : Int) + 17 + p.size) _ HC6.out hc6 F.out.bytes hl6 ⟨by omega, by omega⟩).mono ?_
      rintro e _ ⟨rfl, rfl⟩
      rw [F.out.u1, F.out.u2, F.out.u3, bytesOf_str]
      have hbl : b.length ≤ l6.length := by rw [HL.out]; omega
      have hcut1 : ((b.length : Nat) : Int) ≤ (c6 : Int) := by omega
      have HC7 := Lib.hid (Low.take_C HC6.out b.length hbl)
      rw [F.out.pre] at HC7
      go_wp2_with fail
      refine (same_n A6 c6 b.length b A0 c0 b.length b _ rfl rfl HC7.out (Kd.C_below HR.out HW.out) HB.out HB.out).mono ?_
      rintro e w7 ⟨rfl, hd⟩
      rw [decide_eq_true (rfl : b = b)]
      replace HW := Lib.hid (below_then HW.out HW.out.size hd.below)
      clear hd
      go_wp2_with fail
      refine (awake_calls _).mono ?_
      rintro e w8 ⟨rfl, hb⟩
      have HZ := Lib.hid (below_then HW.out HW.out.size hb)
      clear hb
      go_wp2
      go_ret
      exact ⟨rfl, HZ.out⟩
end Go.Proofs.Ytnipddabgedoaaa.Oct
