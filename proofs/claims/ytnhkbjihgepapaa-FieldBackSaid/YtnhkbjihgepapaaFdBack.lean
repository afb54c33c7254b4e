/- FieldBack: right fields written as bytes are read back, and have one form. -/
import Derived.Test.YtnhkbjihgepapaaFdLaw
set_option linter.unusedVariables false
set_option linter.unusedSimpArgs false
namespace Go.Proofs.Ytnhkbjihgepapaa.Fd
open Go.RowKit Go.Proofs.YtnhkbjihgepapaaW.PrintWords Go.Proofs.YtnhkbjihgepapaaW.PrintLast Go.Proofs.YtnhkbjihgepapaaW.PrintMore Go.Proofs.Ytnhkbjihgepapaa.PF Go.Proofs.Ytnhkbjihgepapaa.Oct Go.Proofs.Ytnhkbjihgepapaa.EvK
attribute [local go_sem] max2_int min2_int max_two min_two max_three min_three max_four min_four
theorem Right_calls (l : List Fl) (A : Option Addr) (c n : Nat) (hn : n = l.length) (w : World) (hl : l.length ≤ 9000000000000000) (hr : Kd.C k30 w A l.length l) (hc : l.length ≤ c) : Calls Try.prog 10 #[.slice A n c] w fun e w' => e = .returned (.bool (rightL l)) ∧ Below w.heap.size w w' := by
  subst hn
  exact rightL_calls l A c w hl hr hc
theorem pick_any (a : Int) (n : Nat) (h0 : 1 ≤ n) (hn : n ≤ 4398046511104) : ∃ k : Nat, k < n ∧ ∀ w, Calls Try.prog 24 #[.int .i64 a, .int .i64 n] w fun e w' => e = .returned (.int .i64 k) ∧ Drawn0 w w' := by
  have h1 : -(n : Int) < Int.tmod a n ∧ Int.tmod a n < n := by
    have := Int.tmod_lt_of_pos a (show (0 : Int) < n by omega)
    have h2 := Int.tmod_lt_of_pos (-a) (show (0 : Int) < n by omega)
    rw [Int.neg_tmod] at h2
    exact ⟨by omega, this⟩
  by_cases hneg : Int.tmod a n < 0
  · obtain ⟨k, hk⟩ := Int.eq_ofNat_of_zero_le (show 0 ≤ Int.tmod a n + n by omega)
    refine ⟨k, by omega, fun w => musterlow_Pick.calls a n k w ?_⟩
    unfold musterlow_Pick.f
    rw [if_neg (by omega), if_neg (by omega), if_pos hneg]
    congr 1
    unfold wrap64
    omega
  · obtain ⟨k, hk⟩ := Int.eq_ofNat_of_zero_le (show 0 ≤ Int.tmod a n by omega)
    refine ⟨k, by omega, fun w => musterlow_Pick.calls a n k w ?_⟩
    unfold musterlow_Pick.f
    rw [if_neg (by omega), if_neg (by omega), if_neg hneg, hk]
/-- All refuses bytes. -/
theorem All_no (b : List Int) (A : Option Addr) (c n : Nat) (hn : n = b.length) (w : World) (hr : Kd.C (Kd.int .u8) w A b.length b) (hc : b.length ≤ c) (hb : Bts b) (hl : b.length ≤ 140737488355328) (h : allF b = ([], 40)) :
    Calls Try.prog 11 #[.slice A n c] w fun e w' => ∃ A' c', e = .returned (.tuple #[.slice A' 0 c', .int .i64 40]) ∧ Below w.heap.size w w' := by
  refine (All_calls b A c n hn w hr hc hb hl).mono ?_
  rw [h]
  rintro e w' ⟨A', c', rfl, _, _, hb⟩
  exact ⟨A', c', rfl, hb⟩
/-- All takes bytes. -/
theorem All_yes (b : List Int) (m : List Fl) (A : Option Addr) (c n : Nat) (hn : n = b.length) (w : World) (hr : Kd.C (Kd.int .u8) w A b.length b) (hc : b.length ≤ c) (hb : Bts b) (hl : b.length ≤ 140737488355328) (h : allF b = (m, 0)) (k : Nat) (hk : k = m.length) :
    Calls Try.prog 11 #[.slice A n c] w fun e w' => ∃ A' c', e = .returned (.tuple #[.slice A' k c', .int .i64 0]) ∧ k ≤ c' ∧ Kd.C k30 w' A' m.length m ∧ Below w.heap.size w w' := by
  subst hk
  refine (All_calls b A c n hn w hr hc hb hl).mono ?_
  rw [h]
  exact fun e w' h => h
theorem Put_yes (l : List Fl) (X : List Int) (A : Option Addr) (c n : Nat) (hn : n = l.length) (w : World) (hr : Kd.C k30 w A l.length l) (hc : l.length ≤ c) (hl : l.length ≤ 9000000000000000) (h : putR l = (X, 0)) (k : Nat) (hk : k = X.length) :
    Calls Try.prog 8 #[.slice A n c] w fun e w' => ∃ A' c', e = .returned (.tuple #[.slice A' k c', .int .i64 0]) ∧ k ≤ c' ∧ Kd.C (Kd.int .u8) w' A' X.length X ∧ Below w.heap.size w w' := by
  subst hk
  refine (Put_calls l A c n hn w hr hc hl).mono ?_
  rw [h]
  exact fun e w' h => h
set_option maxRecDepth 100000 in
set_option maxHeartbeats 8000000 in
theorem back_law (l : List Fl) (A0 : Option Addr) (c0 : Nat) (b : List Int) (A1 : Option Addr) (c1 : Nat) (ct : Int) (w : World) (hr0 : Kd.C k30 w A0 l.length l) (hc0 : l.length ≤ c0) (hr1 : Kd.C (Kd.int .u8) w A1 b.length b) (hc1 : b.length ≤ c1) (hl : l.length ≤ 9000000000000000) (wl : ∀ x ∈ l, Wf x ∧ Mem9 x) (hb1 : Bts b) (hbl : b.length ≤ 140737488355328) :
    Calls Try.prog 6 #[.slice A0 l.length c0, .slice A1 b.length c1, .int .i64 ct] w fun e w' => e = .returned (.bool true) ∧ Below w.heap.size w w' := by
  obtain ⟨n0, hn0⟩ : ∃ n, n = l.length := ⟨_, rfl⟩
  obtain ⟨n1, hn1⟩ : ∃ n, n = b.length := ⟨_, rfl⟩
  have HP0 := Lib.hid (Put_calls l A0 c0 n0 hn0 w hr0 hc0 hl)
  have HRt := Lib.hid (fun W (hb : Below w.heap.size w W) => Right_calls l A0 c0 n0 hn0 W hl (Kd.C_below hr0 hb) hc0)
  have HSf := Lib.hid (fun W (hb : Below w.heap.size w W) (A : Option Addr) (c : Nat) (hr : Kd.C k30 W A l.length l) (hc : n0 ≤ c) => show Calls Try.prog 20 #[.slice A0 n0 c0, .slice A n0 c] W fun e w' => e = .returned (.bool true) ∧ Below W.heap.size W w' by
    have h := Same_calls l l A0 c0 n0 hn0 A c n0 hn0 W (Kd.C_below hr0 hb) hc0 hr (by rw [← hn0]; exact hc) (by omega) (fun x hx => (wl x hx).2)
    rw [decide_eq_true rfl] at h
    exact h)
  have HS0 := Lib.hid (putR_says l)
  have HB0 := Lib.hid (putR_bytes (fun x hx => (wl x hx).1))
  have HW := Lib.hid (fun x hx => (wl x hx).1)
  have HD := Lib.hid (And.intro hr1 (And.intro hc1 (And.intro hb1 hbl)))
  have HN := Lib.hid (And.intro hn0 hn1)
  rw [← hn0, ← hn1]
  clear hr0 hc0 hr1 hc1 hl wl hn0 hn1 hb1 hbl
  obtain ⟨X, hX⟩ : ∃ X, X = (putR l).1 := ⟨_, rfl⟩
  obtain ⟨ex, hex⟩ : ∃ X, X = (putR l).2 := ⟨_, rfl⟩
  rw [← hX, ← hex] at HP0 HS0
  rw [← hX] at HB0
  obtain ⟨nX, hnX⟩ : ∃ n, n = X.length := ⟨_, rfl⟩
  rw [← hnX] at HP0
  have HNX := Lib.hid hnX
  clear hX hex hnX
  go_enter Try.func6, Try.ntmps6
  go_wp2_with fail
  refine HP0.out.mono ?_
  rintro e w1 ⟨AX, cX, rfl, hcX, hrX, hb⟩
  have HX := Lib.hid (And.intro hcX (show Kd.C (Kd.int .u8) w1 AX X.length X by rw [← HNX.out]; exact hrX))
  have HBa := Lib.hid hb
  clear hcX hrX hb HP0
  go_upto_if 25 with (fail)
  go_cut [] (fun wc => Hid (Below w.heap.size w wc))
  case first =>
    rcases HS0.out with ⟨rfl, h1, h2, h3⟩ | ⟨rfl, h1, h2⟩ | ⟨rfl, h1, h2⟩
    · have HR := Lib.hid h1
      have HXe := Lib.hid h2
      have hx1 : 1 ≤ nX := by rw [HNX.out, h2, putL_len]; omega
      have hx65 : nX ≤ 65000 := by rw [HNX.out, h2]; exact h3
      clear h1 h2 h3 HS0
      have HA1 := Lib.hid (All_yes X l AX cX nX HNX.out w1 HX.out.2 (by have := HX.out.1; have := HNX.out; omega) HB0.out (by have := HNX.out; omega) (by rw [HXe.out]; exact allF_put HR.out HW.out (by rw [← HXe.out, ← HNX.out]; exact hx65)) n0 HN.out.1)
      go_wp2_with fail
      refine HA1.out.mono ?_
      rintro e w2 ⟨AL, cL, rfl, hcL, hrL, hb⟩
      have HL := Lib.hid (And.intro hcL hrL)
      have HX2 := Lib.hid (Kd.C_below HX.out.2 hb)
      have HBb := Lib.hid (below_then HBa.out HBa.out.size hb)
      clear hcL hrL hb HA1
      obtain ⟨k, hk, hP⟩ := pick_any ct nX hx1 (by omega)
      have HP := Lib.hid hP
      clear hP
      go_wp2_with fail
      refine (HP.out w2).mono ?_
      rintro e w3 ⟨rfl, hd⟩
      have hb := hd.below
      have HX3 := Lib.hid (Kd.C_below HX2.out hb)
      have HL3 := Lib.hid (Kd.C_below HL.out.2 hb)
      have HBc := Lib.hid (below_then HBb.out HBb.out.size hb)
      clear hd hb HP HX2
      obtain ⟨i0, hi0, _, hz1, _⟩ := info_parts Low.info8
      have s1 := fun W => Low.cut_h (P := Try.prog) 22 5 Try.underlying22 hi0 hz1 AX nX cX k (by have := HX.out.1; omega) W
      have HA2 := Lib.hid (All_no (X.take k) AX cX k (by rw [List.length_take, ← HNX.out]; omega) w3 (by
        have := Low.take_C HX3.out k (by rw [← HNX.out]; omega)
        rw [List.length_take, ← HNX.out, Nat.min_eq_left (by omega)]
        exact this) (by rw [List.length_take]; have := HX.out.1; omega) (fun x hx => HB0.out x (List.mem_of_mem_take hx)) (by rw [List.length_take]; omega) (by rw [HXe.out]; exact allF_cut HR.out HW.out (putL_bytes HR.out HW.out) (by rw [← HXe.out, ← HNX.out]; exact hk)))
      go_wp2_with fail
      refine HA2.out.mono ?_
      rintro e w4 ⟨A4, c4, rfl, hb⟩
      have HX4 := Lib.hid (Kd.C_below HX3.out hb)
      have HL4 := Lib.hid (Kd.C_below HL3.out hb)
      have HBd := Lib.hid (below_then HBc.out HBc.out.size hb)
      clear hb HA2 HX3 HL3 s1 hi0 hz1
      have HCp := Lib.hid (show Calls Try.prog 25 #[.slice AX nX cX] w4 fun e w' => ∃ v0 : Value, e = .returned v0 ∧ Kd.R (Kd.int .u8) 5 w' w4.heap.size (fun _ => True) v0 X ∧ Below w4.heap.size w4 w' by
        rw [HNX.out]
        exact Low.copy_calls AX cX X w4 HX4.out (by have := HNX.out; omega))
      go_wp2_with fail
      refine HCp.out.mono ?_
      rintro e w5 ⟨v5, rfl, ho, hb⟩
      obtain ⟨A5, c5, hv5⟩ := Kd.R_slice ho
      rw [← HNX.out] at hv5
      subst hv5
      have HO5 := Lib.hid ho
      have HB5 := Lib.hid hb
      clear ho hb HCp HX4
      go_wp2_with (first | ((with_reducible refine gate_builtin (b := .append) (xs := #[.tmp 43, .tmp 46]) rfl ?_); at_builtin; refine Kd.R_append (Kd.int .u8) (w0 := w4) w4.heap.size rfl (.tmp 43) (.tmp 46) 22 5 (.int .u8 0) 1 rfl Try.underlying22 Low.info8 rfl (by decide) (by decide) (.slice A5 nX c5) X (ct % 256) [.int .u8 (ct % 256)] (fun _ => True) (fun _ => False) rfl rfl rfl (fun _ hk => hk.elim) (fun _ _ => trivial) HO5.out HB5.out HB5.out.size (by have := HNX.out; omega) ?_; intro v6 w6 ho hb _ _; have HO6 := Lib.hid ho; have HB6 := Lib.hid hb; clear ho hb; obtain ⟨A6, c6, hv6⟩ := Kd.R_slice HO6.out; obtain ⟨n6, hn6⟩ : ∃ n, n = (X ++ [ct % 256]).length := ⟨_, rfl⟩; rw [← hn6] at hv6; subst hv6; have HN6 := Lib.hid hn6; clear hn6) | fail)
      have HRd := Lib.hid (Kd.R_reads' HO6.out)
      have hlen6 : (X ++ [ct % 256]).length ≤ 65001 := by rw [List.length_append, ← HNX.out]; simp only [List.length_cons, List.length_nil]; omega
      refine (All_no (X ++ [ct % 256]) A6 c6 n6 HN6.out w6 HRd.out.2.2 (by rw [← HN6.out]; exact HRd.out.2.1) (bytes_append HB0.out (fun z hz => by rw [List.mem_singleton.1 hz]; omega)) (by omega) (by rw [HXe.out]; exact allF_more HR.out HW.out _)).mono ?_
      rintro e w7 ⟨A7, c7, rfl, hb⟩
      have hb46 := below_then HB6.out HB6.out.size hb
      have HL7 := Lib.hid (Kd.C_below HL4.out hb46)
      have HBe := Lib.hid (below_then HBd.out HBd.out.size hb46)
      clear hb hb46 HRd hlen6
      go_wp2_with fail
      refine (HSf.out w7 HBe.out AL cL HL7.out HL.out.1).mono ?_
      rintro e w8 ⟨rfl, hb⟩
      have HBf := Lib.hid (below_then HBe.out HBe.out.size hb)
      clear hb
      go_wp2_with fail
      refine (HRt.out w8 HBf.out).mono ?_
      rintro e w9 ⟨rfl, hb⟩
      rw [HR.out]
      have HBg := Lib.hid (below_then HBf.out HBf.out.size hb)
      clear hb
      go_wp2
      go_meet
      case rel => exact HBg
    · have HR := Lib.hid h1
      clear h1 h2 HS0
      go_wp2_with fail
      refine (HRt.out w1 HBa.out).mono ?_
      rintro e w2 ⟨rfl, hb⟩
      rw [HR.out]
      have HBb := Lib.hid (below_then HBa.out HBa.out.size hb)
      clear hb
      go_wp2
      go_meet
      case rel => exact HBb
    · have HR := Lib.hid h1
      clear h1 h2 HS0
      go_wp2_with fail
      refine (HRt.out w1 HBa.out).mono ?_
      rintro e w2 ⟨rfl, hb⟩
      rw [HR.out]
      have HBb := Lib.hid (below_then HBa.out HBa.out.size hb)
      clear hb
      go_wp2
      go_meet
      case rel => exact HBb
  case rest =>
    clear HS0 HX HBa HRt HSf HB0 HNX HW
    have HBa := hcut
    clear hcut
    obtain ⟨n1', hn1'⟩ : ∃ n, n = n1 := ⟨_, rfl⟩
    have HAl := Lib.hid (fun m (h : allF b = (m, 0)) k (hk : k = m.length) => All_yes b m A1 c1 n1 HN.out.2 wc (Kd.C_below HD.out.1 HBa.out) HD.out.2.1 HD.out.2.2.1 HD.out.2.2.2 h k hk)
    rcases allF_says b with hf | hf
    · obtain ⟨m, hm⟩ : ∃ m, allF b = (m, 0) := ⟨(allF b).1, by rw [← hf]⟩
      obtain ⟨h1, h2, h3, h4⟩ := allF_seg HD.out.2.2.1 hm
      have HM := Lib.hid (And.intro h1 (And.intro h2 h3))
      have HPm : Hid (putR m = (b, 0)) := Lib.hid (by unfold putR; rw [if_pos h1, h3, if_neg (by omega)])
      have hm64 := (rightL_mem h1).2
      obtain ⟨k, hk⟩ : ∃ k, k = m.length := ⟨_, rfl⟩
      have HA := Lib.hid (HAl.out m hm k hk)
      have HK := Lib.hid hk
      clear hf hm h1 h2 h3 h4 HAl hk
      go_wp2_with fail
      refine HA.out.mono ?_
      rintro e w2 ⟨AM, cM, rfl, hcM, hrM, hb⟩
      have HMr := Lib.hid (And.intro hcM hrM)
      have HBb := Lib.hid (below_then HBa.out HBa.out.size hb)
      clear hcM hrM hb HA
      have HPp := Lib.hid (Put_yes m b AM cM k HK.out w2 HMr.out.2 (by rw [← HK.out]; exact HMr.out.1) (by omega) HPm.out n1 HN.out.2)
      go_wp2_with fail
      refine HPp.out.mono ?_
      rintro e w3 ⟨AY, cY, rfl, hcY, hrY, hb⟩
      have HY := Lib.hid (And.intro hcY hrY)
      have HM3 := Lib.hid (Kd.C_below HMr.out.2 hb)
      have HBc := Lib.hid (below_then HBb.out HBb.out.size hb)
      clear hcY hrY hb HPp
      have HRm := Lib.hid (Right_calls m AM cM k HK.out w3 (by omega) HM3.out (by rw [← HK.out]; exact HMr.out.1))
      rw [HM.out.1] at HRm
      go_wp2_with fail
      refine HRm.out.mono ?_
      rintro e w4 ⟨rfl, hb⟩
      have HY4 := Lib.hid (Kd.C_below HY.out.2 hb)
      have HBd := Lib.hid (below_then HBc.out HBc.out.size hb)
      clear hb HRm
      have HSb := Lib.hid (Bytes_calls AY cY n1 b HN.out.2 A1 c1 n1 b HN.out.2 w4 HY4.out (Kd.C_below HD.out.1 HBd.out) HD.out.2.2.1 HD.out.2.2.1)
      rw [decide_eq_true rfl] at HSb
      go_wp2_with fail
      refine HSb.out.mono ?_
      rintro e w5 ⟨rfl, hb⟩
      have HBe := Lib.hid (below_then HBd.out HBd.out.size hb)
      clear hb HSb
      go_wp2_with fail
      refine (awake_calls w5).mono ?_
      rintro e w6 ⟨rfl, hb⟩
      have HBf := Lib.hid (below_then HBe.out HBe.out.size hb)
      clear hb
      go_wp2
      go_ret
      exact ⟨rfl, HBf.out⟩
    · have HA := Lib.hid (All_no b A1 c1 n1 HN.out.2 wc (Kd.C_below HD.out.1 HBa.out) HD.out.2.1 HD.out.2.2.1 HD.out.2.2.2 hf)
      clear hf HAl
      go_wp2_with fail
      refine HA.out.mono ?_
      rintro e w2 ⟨AM, cM, rfl, hb⟩
      have HBb := Lib.hid (below_then HBa.out HBa.out.size hb)
      clear hb HA
      go_wp2_with fail
      refine (awake_calls w2).mono ?_
      rintro e w6 ⟨rfl, hb⟩
      have HBf := Lib.hid (below_then HBb.out HBb.out.size hb)
      clear hb
      go_wp2
      go_ret
      exact ⟨rfl, HBf.out⟩
end Go.Proofs.Ytnhkbjihgepapaa.Fd
