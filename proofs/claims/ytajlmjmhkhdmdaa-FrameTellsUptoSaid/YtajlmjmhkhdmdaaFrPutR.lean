/- The document's Put, walked. -/
import Derived.Test.YtajlmjmhkhdmdaaFrAwake
import Derived.Test.YtajlmjmhkhdmdaaSumsAdler
set_option linter.unusedVariables false
set_option linter.unusedSimpArgs false
namespace Go.Proofs.Ytajlmjmhkhdmdaa.PF
open Go.RowKit Go.Proofs.YtajlmjmhkhdmdaaW.PrintWords Go.Proofs.YtajlmjmhkhdmdaaW.PrintLast Go.Proofs.YtajlmjmhkhdmdaaW.PrintMore
attribute [local go_sem] max2_int min2_int max_two min_two
theorem one_R (W : World) (k : Int) : Kd.R ku8 5 (W.alloc (.cells #[.int .u8 k] 5)) W.heap.size (fun _ => True) (.slice (some ⟨W.heap.size, 0, none⟩) 1 1) [k] :=
  ⟨fun _ _ => trivial, OwnRow.lit W W.heap.size (inner := [.int .u8 k]) (ps := [k]) (Reps.snoc (ps := []) (Reps.none _ _) rfl rfl) (Nat.le_refl _) (by simp)⟩
set_option maxRecDepth 100000 in
set_option maxHeartbeats 4000000 in
theorem refPut_calls (k : Int) (l : List Int) (A : Option Addr) (c : Nat) (w : World) (hr : Kd.C ku8 w A l.length l) (hc : l.length ≤ c) (hk : 0 ≤ k ∧ k ≤ 255) (hl : Bytes l) (hlen : l.length ≤ 4398046511104) :
    Calls Try.prog 18 #[.agg #[.int .u8 k, .slice A l.length c]] w fun e w' => ∃ A' c', e = .returned (.tuple #[.slice A' (putL k l).length c', .int .i64 (putE l)]) ∧ Kd.R ku8 5 w' w.heap.size (fun _ => True) (.slice A' (putL k l).length c') (putL k l) ∧ Below w.heap.size w w' := by
  by_cases hbig : 65536 ≤ l.length
  · have e1 : putL k l = [] := by unfold putL; rw [if_pos hbig]
    have e2 : putE l = 3 := by unfold putE; rw [if_pos hbig]
    rw [e1, e2]
    have hb1 : (65535 : Int) < (l.length : Int) := by omega
    clear hr hc hk hl e1 e2 hbig
    go_enter Try.func18, Try.ntmps18
    go_wp2
    go_ret2
    exact ⟨none, 0, rfl, Kd.R_nil _ _ _ _ _, below_alloc (Below.refl _ _) _⟩
  · have e1 : putL k l = putF k l := by unfold putL; rw [if_neg hbig]
    have e2 : putE l = 0 := by unfold putE; rw [if_neg hbig]
    rw [e1, e2]
    have hb1 : ¬ (65535 : Int) < (l.length : Int) := by omega
    have HR := Lib.hid (And.intro hr (And.intro hc (And.intro hk hl)))
    have hl1 : ([k].length + l.length) * 1 ≤ 140737488355328 := by simp only [List.length_cons, List.length_nil]; omega
    have hi1 : (innerF k l).length = 1 + l.length := inner_length k l
    have hcr := crc_range (innerF k l)
    have hin : [k] ++ l = innerF k l := by unfold innerF; rw [be1 k hk]
    have HIn := Lib.hid (And.intro hin (And.intro hi1 (inner_bytes (k := k) hl)))
    have hl64 : l.length ≤ 9223372036854775807 := by omega
    clear hr hc hk hl e1 e2 hin
    go_enter Try.func18, Try.ntmps18
    go_upto_region 3 with (fail)
    generalize hWD : (World.alloc w _) = WD
    obtain ⟨b1, hb1e⟩ : ∃ b, b = w.heap.size := ⟨_, rfl⟩
    rw [← hb1e]
    have hbx : WD.heap[b1]? = some (.cells #[.int .u8 k, .slice A l.length c] 27 (0, 0)) := by rw [← hWD, hb1e]; exact blk_new _ _
    have hBD : Below w.heap.size w WD := by rw [← hWD]; exact below_alloc (Below.refl _ _) _
    have HBD := Lib.hid hBD
    have g0 : WD.cell? ⟨b1, 0, none⟩ = some (.int .u8 k) := (blk_cell hbx 0).trans rfl
    have g1 : WD.cell? ⟨b1, 1, none⟩ = some (.slice A l.length c) := (blk_cell hbx 1).trans rfl
    have hlt1 : b1 < WD.heap.size := blk_lt hbx
    have hne1 : ¬ b1 = WD.heap.size := by omega
    have g1a : (WD.alloc (.cells #[.int .u8 k] 5)).cell? ⟨b1, 1, none⟩ = some (.slice A l.length c) := (blk_cell (blk_alloc hbx _) 1).trans rfl
    clear hWD hb1e hbx hBD
    go_upto_region 4 with ((with_reducible refine gate_builtin (b := .append) (xs := #[.tmp 12, .tmp 14]) rfl ?_); at_builtin; refine Kd.R_append_rows ku8 (w0 := WD) WD.heap.size rfl (.tmp 12) (.tmp 14) 22 5 (.int .u8 0) 1 rfl Try.underlying22 Low.info8 rfl (by decide) (by omega) (.slice (some ⟨WD.heap.size, 0, none⟩) 1 1) [k] l _ _ _ (fun _ => True) (fun _ => False) rfl rfl (one_R WD k) (Kd.C_alloc (Kd.C_below HR.out.1 HBD.out) _) (fun _ _ h => h) (fun _ h => h.elim) (fun _ _ => trivial) (below_alloc (Below.refl _ _) _) (by simp) hl1 ?_; intro v4 w1 ho hb _ _; have HO4 := Lib.hid ho; have HB1 := Lib.hid hb; clear ho hb)
    rw [HIn.out.1] at HO4
    obtain ⟨A4, c4, hv4⟩ := Kd.R_slice HO4.out
    subst hv4
    rw [hi1] at HO4 ⊢
    replace HB1 := Lib.hid (below_then HBD.out HBD.out.size HB1.out)
    clear g0 g1 hl1 g1a hlt1 hne1
    have w64 : IntKind.u64.wrap (1 + (l.length : Int)) = 1 + (l.length : Int) := by rw [IntKind.wrap_u64]; omega
    have HA1 : Hid (Calls Try.prog 30 #[.slice none 0 0, .int .u64 (1 + (l.length : Int)), .int .i64 4] w1 (Oct.NewBytes w1 ([] ++ Oct.be (1 + (l.length : Int)) 4))) := Lib.hid (Oct.refAdd_calls (1 + (l.length : Int)) 4 none 0 [] w1 (by omega) (by omega) (by decide) (by decide) (Kd.C_nil _ _) (Nat.zero_le _))
    go_wp2_with fail
    refine HA1.out.mono ?_
    rintro e w2 ⟨v5, rfl, hR5, hb⟩
    rw [List.nil_append] at hR5
    have HR5 := Lib.hid hR5
    have HB2 := Lib.hid hb
    have HC4 := Lib.hid (show Kd.C ku8 w2 A4 (1 + l.length) (innerF k l) from by
      have h := (Kd.R_reads' (Kd.R_below HO4.out hb)).2.2
      rw [hi1] at h
      exact h)
    have hl3 : ((Oct.be (1 + (l.length : Int)) 4).length + (1 + l.length)) * 1 ≤ 140737488355328 := by rw [Oct.be_length]; omega
    have HL3 := Lib.hid hl3
    clear hR5 hb HA1 hl3 w64
    go_upto_region 5 with ((with_reducible refine gate_builtin (b := .append) (xs := #[.tmp 19, .tmp 20]) rfl ?_); at_builtin; refine Kd.R_append_rows ku8 (w0 := w1) w1.heap.size rfl (.tmp 19) (.tmp 20) 22 5 (.int .u8 0) 1 rfl Try.underlying22 Low.info8 rfl (by decide) (by omega) v5 (Oct.be (1 + (l.length : Int)) 4) (innerF k l) _ _ _ (fun _ => True) (fun _ => False) rfl rfl HR5.out HC4.out (fun _ _ h => h) (fun _ h => h.elim) (fun _ _ => trivial) HB2.out HB2.out.size HL3.out ?_; intro v6 w3 ho hb _ _; have HO6 := Lib.hid ho; have HB3 := Lib.hid hb; clear ho hb)
    obtain ⟨A6, c6, hv6⟩ := Kd.R_slice HO6.out
    subst hv6
    have hi6 : (Oct.be (1 + (l.length : Int)) 4 ++ innerF k l).length = 5 + l.length := by rw [List.length_append, Oct.be_length, hi1]; omega
    have HC43 := (Kd.R_reads' (Kd.R_below HO4.out HB3.out)).2.2
    rw [hi1] at HC43
    obtain ⟨q, hq⟩ : ∃ q, q = crc (innerF k l) := ⟨_, rfl⟩
    have HCR : Hid (Calls Try.prog 31 #[.int .u32 0, .slice A4 (1 + l.length) c4] w3 fun e w' => e = .returned (.int .u32 q) ∧ w3 = w') := Lib.hid (by
      have h := Sums.refMore_calls 0 A4 c4 (innerF k l) w3 (by rw [hi1]; exact HC43) HIn.out.2.2 (by rw [hi1]; omega)
      rw [hi1] at h
      rw [hq]
      exact h)
    have HA2 := Oct.refAdd_calls q 4 A6 c6 (Oct.be (1 + (l.length : Int)) 4 ++ innerF k l) w3 (by rw [hq]; exact hcr.1) (by rw [hq]; have := hcr.2; omega) (by decide) (by decide) (Kd.R_reads' HO6.out).2.2 (by rw [hi6]; omega)
    rw [hi6] at HA2 ⊢
    have HA2h := Lib.hid HA2
    rw [← hq] at hcr
    have hq0 := hcr.1
    have hq1 := hcr.2
    have HQ := Lib.hid (And.intro hq hi6)
    have wq : IntKind.u64.wrap q = q := by rw [IntKind.wrap_u64]; omega
    clear HC43 HA2 hcr hi6 hq
    go_wp2_with fail
    refine HCR.out.mono ?_
    rintro e w' ⟨rfl, rfl⟩
    go_wp2_with fail
    refine HA2h.out.mono ?_
    rintro e w4 ⟨v7, rfl, hR7, hb⟩
    have HP : Oct.be (1 + (l.length : Int)) 4 ++ innerF k l ++ Oct.be q 4 = putF k l := by rw [HQ.out.1]; rfl
    rw [HP] at hR7
    obtain ⟨A7, c7, rfl⟩ := Kd.R_slice hR7
    have hB3w := below_then HB1.out HB1.out.size HB3.out
    have HE := Lib.hid (And.intro (Kd.R_lower hR7 hB3w.size) (below_then hB3w hB3w.size hb))
    clear hR7 hb hB3w HP HCR HA2h
    go_wp2
    go_ret2
    exact ⟨A7, c7, rfl, HE.out.1, HE.out.2⟩
end Go.Proofs.Ytajlmjmhkhdmdaa.PF
