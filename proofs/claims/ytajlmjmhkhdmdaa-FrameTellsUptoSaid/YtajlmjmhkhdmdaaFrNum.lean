/- FrameNumbers: the fixed examples. -/
import Derived.Test.YtajlmjmhkhdmdaaFrBack
import Derived.Test.YtajlmjmhkhdmdaaOctAdd
set_option linter.unusedVariables false
set_option linter.unusedSimpArgs false
namespace Go.Proofs.Ytajlmjmhkhdmdaa.PF
open Go.RowKit Go.Proofs.YtajlmjmhkhdmdaaW.PrintWords Go.Proofs.YtajlmjmhkhdmdaaW.PrintLast Go.Proofs.YtajlmjmhkhdmdaaW.PrintMore
attribute [local go_sem] max2_int min2_int max_two min_two
theorem mk_zeros (n : Nat) (hn : n ≤ 70000) : ∃ Z : Array Value, (∀ W, (Instr.makeSlice 22 (.int .i64 (n : Int)) (.int .i64 (n : Int))).run Try.prog W = .ok (.slice (some ⟨W.heap.size, 0, none⟩) n n) (W.alloc (.cells Z 5))) ∧
    ∀ W : World, Kd.C ku8 (W.alloc (.cells Z 5)) (some ⟨W.heap.size, 0, none⟩) n (List.replicate n (0 : Int)) := by
  obtain ⟨i0, hi, hz0, hz1, hz2⟩ := info_parts Low.info8
  refine ⟨madeCells #[.int .u8 0] n, fun W => by
    have h := run_make (P := Try.prog) W 22 5 i0 (.int .u8 0) Try.underlying22 hi hz0 .i64 .i64 n n (by omega) (by omega) (by rw [hz2]; omega) (by omega)
    rw [Int.toNat_natCast, hz1, Nat.mul_one] at h
    exact h, fun W => ?_⟩
  have h := Kd.R_reads' (Oct.made_row W n n (Nat.le_refl _) (by unfold maxLen; omega))
  have e : (List.replicate n (0 : Int)).length = n := List.length_replicate
  have h2 := h.2.2
  rw [e] at h2
  exact h2
/-- A reader that was just made. -/
theorem St.new {w0 w : World} {bx : Nat} (h : RB w bx false none 0 0) (hb : w0.heap.size ≤ bx) : St w0.heap.size bx ([], false, []) (.slice none 0 0) none 0 w :=
  ⟨h, (fun h => by cases h), (fun k hk => by simp [Value.ownBlock] at hk), Kd.R_nil _ _ _ _ _, Kd.R_nil _ _ _ _ _, hb⟩
theorem feedS_new (x : List Int) : feedS ([], false, []) x = feedF x := by
  unfold feedS
  rw [if_neg (by decide)]
  rfl
/-- One feeding of a reader, whatever it told so far. -/
theorem feed_one {w0 w : World} {bx : Nat} {br : Bool} {left : List Int} {A : Option Addr} {c : Nat} (h : St w0.heap.size bx ([], br, left) (.slice none 0 0) A c w) (hB0 : Below w0.heap.size w0 w) (x : List Int) (B : Option Addr) (n cx : Nat) (hn : x.length = n) (hx : Kd.C ku8 w B n x) (hcx : n ≤ cx) (hl : Bytes left) (hxb : Bytes x) (hlen : left.length + n ≤ 4398046511104)
    (fs : List Fr) (br2 : Bool) (left2 : List Int) (er : Int) (hf : feedS ([], br, left) x = (fs, br2, left2)) (her : (if br2 = true then (30 : Int) else 0) = er) :
    Calls Try.prog 10 #[.pointer (some ⟨bx, 0, none⟩), .slice B n cx] w fun e w' => ∃ Av cv A' c', e = .returned (.tuple #[.slice Av fs.length cv, .int .i64 er]) ∧ Kd.C k27 w' Av fs.length fs ∧ fs.length ≤ cv ∧ St w0.heap.size bx ([], br2, left2) (.slice none 0 0) A' c' w' ∧ Below w0.heap.size w0 w' := by
  subst hn
  refine (feed_st h hB0 x B cx hx hcx hl hxb hlen).mono ?_
  rintro e w' ⟨v, ys, A', c', rfl, hys, hst, hv, hb⟩
  rw [hf] at hys hst
  simp only [List.nil_append] at hys
  subst hys
  obtain ⟨Av, cv, rfl⟩ := Kd.R_slice hv
  rw [hf] at *
  exact ⟨Av, cv, A', c', by rw [← her], (Kd.R_reads' hv).2.2, (Kd.R_reads' hv).2.1, hst, hb⟩
set_option maxRecDepth 100000 in
set_option maxHeartbeats 16000000 in
theorem numbers_law (w : World) : Calls Try.prog 3 #[] w fun e w' => e = .returned (.bool true) ∧ Below w.heap.size w w' := by
  have kc := fun (w : World) (C : Array Value) (n c : Nat) => Lib.run_convert_bytes_const (P := Try.prog) w 22 5 C n c Try.underlying22 Try.underlying5
  obtain ⟨i0, hi0, _, hz1, _⟩ := info_parts Low.info8
  obtain ⟨Z1, hm1, hC1⟩ := mk_zeros 65536 (by omega)
  obtain ⟨Z2, hm2, hC2⟩ := mk_zeros 65535 (by omega)
  replace hm1 : ∀ W, (Instr.makeSlice 22 (.int .i64 65536) (.int .i64 65536)).run Try.prog W = .ok (.slice (some ⟨W.heap.size, 0, none⟩) 65536 65536) (W.alloc (.cells Z1 5)) := hm1
  replace hm2 : ∀ W, (Instr.makeSlice 22 (.int .i64 65535) (.int .i64 65535)).run Try.prog W = .ok (.slice (some ⟨W.heap.size, 0, none⟩) 65535 65535) (W.alloc (.cells Z2 5)) := hm2
  obtain ⟨L1, hL1⟩ : ∃ L, L = List.replicate 65536 (0 : Int) := ⟨_, rfl⟩
  obtain ⟨L2, hL2⟩ : ∃ L, L = List.replicate 65535 (0 : Int) := ⟨_, rfl⟩
  rw [← hL1] at hC1
  rw [← hL2] at hC2
  have hl1 : L1.length = 65536 := by rw [hL1, List.length_replicate]
  have hl2 : L2.length = 65535 := by rw [hL2, List.length_replicate]
  have hb1 : Bytes L1 := fun x hx => by rw [hL1] at hx; rw [List.eq_of_mem_replicate hx]; decide
  have hb2 : Bytes L2 := fun x hx => by rw [hL2] at hx; rw [List.eq_of_mem_replicate hx]; decide
  have HC1 := Lib.hid (And.intro hC1 (And.intro hl1 hb1))
  have HC2 := Lib.hid (And.intro hC2 (And.intro hl2 hb2))
  have HI := Lib.hid (And.intro hi0 hz1)
  clear hC1 hC2 hL1 hL2 hl1 hl2 hb1 hb2 hi0 hz1
  go_enter Try.func3, Try.ntmps3
  go_wp2_with fail
  have HP1 : Hid (∀ W A, Kd.C ku8 W A 65536 L1 → Calls Try.prog 8 #[.agg #[.int .u8 0, .slice A 65536 65536]] W fun e w' => ∃ A' c', e = .returned (.tuple #[.slice A' 0 c', .int .i64 3]) ∧ Below W.heap.size W w') := Lib.hid (fun W A h => by
    have h1 := put_calls 0 L1 A 65536 W (by rw [HC1.out.2.1]; exact h) (by rw [HC1.out.2.1]; exact Nat.le_refl _) (by decide) HC1.out.2.2 (by rw [HC1.out.2.1]; decide)
    rw [HC1.out.2.1] at h1
    refine h1.mono ?_
    rintro e w' ⟨A', c', rfl, hR, hb⟩
    have e1 : putL 0 L1 = [] := by unfold putL; rw [if_pos (by rw [HC1.out.2.1]; exact Nat.le_refl _)]
    have e2 : putE L1 = 3 := by unfold putE; rw [if_pos (by rw [HC1.out.2.1]; exact Nat.le_refl _)]
    rw [e1, e2]
    exact ⟨A', c', rfl, hb⟩)
  refine (HP1.out _ _ (HC1.out.1 w)).mono ?_
  rintro e w1 ⟨A1, c1, rfl, hb⟩
  have HB1 := Lib.hid (below_then (below_alloc (Below.refl w.heap.size w) _) (by simp) hb)
  clear hb HP1
  have HP2 : Hid (∀ W A, Kd.C ku8 W A 65535 L2 → Calls Try.prog 8 #[.agg #[.int .u8 1, .slice A 65535 65535]] W fun e w' => ∃ A' c', e = .returned (.tuple #[.slice A' 65544 c', .int .i64 0]) ∧ Kd.R ku8 5 w' W.heap.size (fun _ => True) (.slice A' 65544 c') (putF 1 L2) ∧ Below W.heap.size W w') := Lib.hid (fun W A h => by
    have h1 := put_calls 1 L2 A 65535 W (by rw [HC2.out.2.1]; exact h) (by rw [HC2.out.2.1]; exact Nat.le_refl _) (by decide) HC2.out.2.2 (by rw [HC2.out.2.1]; decide)
    rw [HC2.out.2.1] at h1
    refine h1.mono ?_
    rintro e w' ⟨A', c', rfl, hR, hb⟩
    have e1 : putL 1 L2 = putF 1 L2 := by unfold putL; rw [if_neg (by rw [HC2.out.2.1]; decide)]
    have e2 : putE L2 = 0 := by unfold putE; rw [if_neg (by rw [HC2.out.2.1]; decide)]
    have e3 : (putF 1 L2).length = 65544 := by rw [putF_length, HC2.out.2.1]
    rw [e1, e3] at hR
    rw [e1, e2, e3]
    exact ⟨A', c', rfl, hR, hb⟩)
  go_wp2_with fail
  refine (HP2.out _ _ (HC2.out.1 w1)).mono ?_
  rintro e w2 ⟨A2, c2, rfl, hR, hb⟩
  have HB2 := Lib.hid (below_then HB1.out HB1.out.size (below_then (below_alloc (Below.refl w1.heap.size w1) _) (by simp) hb))
  have HBG := Lib.hid (show Kd.C ku8 w2 A2 65544 (putF 1 L2) ∧ 65544 ≤ c2 ∧ (putF 1 L2).length = 65544 ∧ Bytes (putF 1 L2) ∧ feedF (putF 1 L2) = ([⟨1, L2⟩], false, []) from by
    have e3 : (putF 1 L2).length = 65544 := by rw [putF_length, HC2.out.2.1]
    have h := Kd.R_reads' hR
    have h2 := h.2.2
    rw [e3] at h2
    have h4 := feed_put 1 L2 [] (by decide) (by rw [HC2.out.2.1]; decide)
    rw [List.append_nil, fd_short (l := []) (by decide)] at h4
    exact ⟨h2, h.2.1, e3, putF_bytes HC2.out.2.2, h4⟩)
  clear hb hR HP2 HB1
  go_wp2_with fail
  refine (new_calls _).mono ?_
  rintro e w3 ⟨b1, hbe, rfl, hbx, hb⟩
  have HS := Lib.hid (St.new (w0 := w2) hbx (by omega))
  have HB3 := Lib.hid hb
  clear hbe hbx hb
  have HF1 := Lib.hid (feed_one HS.out HB3.out (putF 1 L2) A2 65544 c2 HBG.out.2.2.1 (Kd.C_below HBG.out.1 HB3.out) HBG.out.2.1 (fun x hx => by cases hx) HBG.out.2.2.2.1 (by decide) [⟨1, L2⟩] false [] 0 (by rw [feedS_new]; exact HBG.out.2.2.2.2) rfl)
  go_wp2_with fail
  refine HF1.out.mono ?_
  rintro e w4 ⟨Av, cv, A3, c3, rfl, hCv, hcv, hst, hb⟩
  obtain ⟨adv, Ab, cb, e1, _, hx1, _, _⟩ := at_T27 hCv 0 (by decide) (by simp)
  cases e1
  replace hx1 : w4.cell? ⟨adv.block, adv.off + 1, none⟩ = some (.slice Ab 65535 cb) := by
    have h : w4.cell? ⟨(adv.add (0 * 2)).block, (adv.add (0 * 2)).off + 1, none⟩ = some (.slice Ab L2.length cb) := hx1
    rw [HC2.out.2.1] at h
    simpa [Addr.add] using h
  have HLf := Lib.hid (left_calls hst.box (by decide))
  have HB4 := Lib.hid hb
  clear hCv hcv hst hb HF1 HS HB3
  go_wp2_with fail
  refine HLf.out.mono ?_
  rintro e w' ⟨rfl, rfl⟩
  clear HLf hx1
  go_wp2
  generalize hWD : (((w4.alloc (.cells _ 5)).alloc (.cells _ 5)).alloc (.cells _ 5)).alloc (.cells _ 22) = WD
  have HWB := Lib.hid (show Below w4.heap.size w4 WD from by rw [← hWD]; exact below_alloc (below_alloc (below_alloc (below_alloc (Below.refl _ _) _) _) _) _)
  have HSl : Hid (WD.heap[w4.heap.size + 1 + 1 + 1]? = some (.cells #[.slice (some ⟨w4.heap.size, 0, none⟩) 4 4, .slice (some ⟨w4.heap.size + 1, 0, none⟩) 4 4, .slice (some ⟨w4.heap.size + 1 + 1, 0, none⟩) 4 4] 22 (0, 0))) := Lib.hid (by
    rw [← hWD]
    have e : ∀ x y z : Obj, (((w4.alloc x).alloc y).alloc z).heap.size = w4.heap.size + 1 + 1 + 1 := fun x y z => by simp only [World.size_alloc]
    rw [← e]
    exact blk_new _ _)
  have HHd : Hid (∀ k : Nat, k < 3 → ∃ (ah : Addr) (H : List Int), WD.cell? ⟨w4.heap.size + 1 + 1 + 1, k, none⟩ = some (.slice (some ah) 4 4) ∧ Kd.C ku8 WD (some ah) 4 H ∧ H.length = 4 ∧ Bytes H ∧ feedF (H.take 3) = ([], false, H.take 3) ∧ feedF H = ([], true, [])) := Lib.hid (by
    have h0 : Kd.C ku8 WD (some ⟨w4.heap.size, 0, none⟩) 4 [0, 0, 0, 0] := by
      rw [← hWD]
      exact Kd.C_alloc (Kd.C_alloc (Kd.C_alloc (Low.const_reads w4 [0, 0, 0, 0] (0, 0) (by decide)) _) _) _
    have h1 : Kd.C ku8 WD (some ⟨w4.heap.size + 1, 0, none⟩) 4 [0, 1, 0, 1] := by
      rw [← hWD]
      exact Kd.C_alloc (Kd.C_alloc (Low.const_reads_at _ _ (by simp only [World.size_alloc]) [0, 1, 0, 1] (0, 0) (by decide)) _) _
    have h2 : Kd.C ku8 WD (some ⟨w4.heap.size + 1 + 1, 0, none⟩) 4 [255, 255, 255, 255] := by
      rw [← hWD]
      exact Kd.C_alloc (Low.const_reads_at _ _ (by simp only [World.size_alloc]) [255, 255, 255, 255] (0, 0) (by decide)) _
    intro k hk
    match k, hk with
    | 0, _ => exact ⟨_, _, (blk_cell HSl.out 0).trans rfl, h0, rfl, by unfold Bytes; decide, fd_short (by decide), fd_bad (by decide) (by decide +kernel)⟩
    | 1, _ => exact ⟨_, _, (blk_cell HSl.out 1).trans rfl, h1, rfl, by unfold Bytes; decide, fd_short (by decide), fd_bad (by decide) (by decide +kernel)⟩
    | 2, _ => exact ⟨_, _, (blk_cell HSl.out 2).trans rfl, h2, rfl, by unfold Bytes; decide, fd_short (by decide), fd_bad (by decide) (by decide +kernel)⟩)
  obtain ⟨bs, hbs⟩ : ∃ b, b = w4.heap.size + 1 + 1 + 1 := ⟨_, rfl⟩
  rw [← hbs] at HHd ⊢
  have HBW := Lib.hid (below_then HB4.out HB4.out.size HWB.out)
  clear hWD hbs HSl
  go_loopw [79] (fun v79 wr => ∃ k : Nat, k ≤ 3 ∧ v79 = .int .i64 k ∧ Hid (Below WD.heap.size WD wr)) (fun v79 _ => 3 - (intOf v79).toNat)
  case atStart => exact ⟨0, by omega, rfl, Lib.hid (Below.refl _ _)⟩
  case round =>
    obtain ⟨k, hk, rfl, HBR⟩ := hrel
    by_cases hlt : k < 3
    · as_aux_lemma =>
      obtain ⟨ah, H, hcell, hCH, hHl, hHb, hf3, hf4⟩ := HHd.out k hlt
      replace hcell := (HBR.out.cell (World.block_lt_of_cell? WD _ hcell)).trans hcell
      have HH := Lib.hid (And.intro (Kd.C_below hCH HBR.out) (And.intro hHl (And.intro hHb (And.intro hf3 hf4))))
      have hcut3 := Low.cut_h (P := Try.prog) 22 5 Try.underlying22 HI.out.1 HI.out.2 (some ah) 4 4 3 (by omega)
      have p1 : 0 ≤ (k : Int) := by omega
      have q1 : (k : Int) < 3 := by omega
      clear hCH hHl hHb hf3 hf4
      go_wp2_with fail
      refine (new_calls _).mono ?_
      rintro e wa ⟨bx, hbe, rfl, hbx, hb⟩
      have HS0 := Lib.hid (St.new (w0 := wr) hbx (by omega))
      have HBa := Lib.hid hb
      clear hbe hbx hb hcell
      have h3l : (H.take 3).length = 3 := by rw [List.length_take, HH.out.2.1]; rfl
      have h1l : (H.drop 3).length = 1 := by rw [List.length_drop, HH.out.2.1]
      have HFa := Lib.hid (feed_one HS0.out HBa.out (H.take 3) (some ah) 3 4 h3l (Low.take_C (Kd.C_below (by rw [HH.out.2.1]; exact HH.out.1) HBa.out) 3 (by rw [HH.out.2.1]; decide)) (by decide) (fun x hx => by cases hx) (HH.out.2.2.1.take 3) (by decide) [] false (H.take 3) 0 (by rw [feedS_new]; exact HH.out.2.2.2.1) rfl)
      go_wp2_with fail
      refine HFa.out.mono ?_
      rintro e wb ⟨Ax, cx, A', c', rfl, _, _, hst, hb⟩
      have hC1d := drop_C (c := 4) (Kd.C_below (by rw [HH.out.2.1]; exact HH.out.1) hb) (by rw [HH.out.2.1]; decide) 3 (by rw [HH.out.2.1]; decide)
      rw [if_neg (by decide), h1l] at hC1d
      replace hC1d : Kd.C ku8 wb (some ⟨ah.block, ah.off + 3, none⟩) 1 (H.drop 3) := by simpa [Addr.add] using hC1d
      have HFb := Lib.hid (feed_one hst hb (H.drop 3) (some ⟨ah.block, ah.off + 3, none⟩) 1 1 h1l hC1d (by decide) (HH.out.2.2.1.take 3) (HH.out.2.2.1.drop 3) (by rw [h3l]; decide) [] true [] 30 (by unfold feedS; rw [if_neg (by simp)]; simp only [List.nil_append, List.take_append_drop, HH.out.2.2.2.2]) rfl)
      clear hst hb hC1d HFa HS0 hcut3 h3l h1l
      go_wp2_with fail
      refine HFb.out.mono ?_
      rintro e wc ⟨Ay, cy, A'', c'', rfl, _, _, hst, hb⟩
      have hb2 : Below w2.heap.size w2 wc := below_then (below_then HBW.out HBW.out.size HBR.out) (below_then HBW.out HBW.out.size HBR.out).size hb
      have HFc := Lib.hid (feed_one hst hb (putF 1 L2) A2 65544 c2 HBG.out.2.2.1 (Kd.C_below HBG.out.1 hb2) HBG.out.2.1 (fun x hx => by cases hx) HBG.out.2.2.2.1 (by decide) [] true [] 30 rfl rfl)
      clear hst hb hb2 HFb
      go_wp2_with fail
      refine HFc.out.mono ?_
      rintro e wd ⟨Az, cz, A3', c3', rfl, _, _, hst, hb⟩
      have HLf := Lib.hid (left_calls hst.box (by decide))
      have HBd := Lib.hid (below_then HBR.out HBR.out.size hb)
      clear hst hb HFc
      go_wp2_with fail
      refine HLf.out.mono ?_
      rintro e w' ⟨rfl, rfl⟩
      go_wp2
      go_roundw
      case rel => exact ⟨k + 1, by omega, by go_num, HBd⟩
      case measure => simp [intOf]; omega
    · as_aux_lemma =>
      obtain rfl : k = 3 := by omega
      have HBE := Lib.hid (below_then (below_then HB2.out HB2.out.size HBW.out) (below_then HB2.out HB2.out.size HBW.out).size HBR.out)
      clear hlt hk HHd
      go_wp2_with fail
      refine (new_calls _).mono ?_
      rintro e wa ⟨bx, hbe, rfl, hbx, hb⟩
      have HS0 := Lib.hid (St.new (w0 := wr) hbx (by omega))
      have HBa := Lib.hid hb
      clear hbe hbx hb
      have HFa : Hid (∀ W A, Below wa.heap.size wa W → Kd.C ku8 W A 4 [0, 1, 0, 0] → Calls Try.prog 10 #[.pointer (some ⟨bx, 0, none⟩), .slice A 4 4] W fun e w' => ∃ Av cv A' c', e = .returned (.tuple #[.slice Av 0 cv, .int .i64 0]) ∧ St wr.heap.size bx ([], false, [0, 1, 0, 0]) (.slice none 0 0) A' c' w' ∧ Below wr.heap.size wr w') := Lib.hid (fun W A hW hC => by
        refine (feed_one (HS0.out.keep hW) (below_then HBa.out HBa.out.size hW) [0, 1, 0, 0] A 4 4 rfl hC (by decide) (fun x hx => by cases hx) (by unfold Bytes; decide) (by decide) [] false [0, 1, 0, 0] 0 (by rw [feedS_new]; exact fd_wait (by decide) (by decide +kernel) (by decide +kernel)) rfl).mono ?_
        rintro e w' ⟨Av, cv, A', c', rfl, _, _, hst, hb⟩
        exact ⟨Av, cv, A', c', rfl, hst, hb⟩)
      go_wp2_with fail
      refine (HFa.out _ _ ?ga ?gb).mono ?_
      case ga => exact below_alloc (Below.refl _ _) _
      case gb => exact Low.const_reads wa [0, 1, 0, 0] (0, 0) (by decide)
      rintro e wb ⟨Ax, cx, A', c', rfl, hst, hb⟩
      have HSx := Lib.hid hst
      replace HBE := Lib.hid (below_then HBE.out HBE.out.size hb)
      clear hst hb HFa HS0 HBa
      have hpc : ∀ W A, Kd.C ku8 W A 2 [97, 98] → Calls Try.prog 8 #[.agg #[.int .u8 5, .slice A 2 2]] W fun e w' => ∃ A' c', e = .returned (.tuple #[.slice A' 11 c', .int .i64 0]) ∧ Kd.R ku8 5 w' W.heap.size (fun _ => True) (.slice A' 11 c') (putF 5 [97, 98]) ∧ Below W.heap.size W w' := fun W A h => by
        refine (put_calls 5 [97, 98] A 2 W h (Nat.le_refl _) (by decide) (by unfold Bytes; decide) (by simp)).mono ?_
        rintro e w' ⟨A', c', rfl, hR, hb⟩
        have e1 : putL 5 [97, 98] = putF 5 [97, 98] := rfl
        have e3 : (putF 5 [97, 98]).length = 11 := putF_length 5 [97, 98]
        rw [e1, e3] at hR
        rw [e1, e3]
        exact ⟨A', c', rfl, hR, hb⟩
      have HPC := Lib.hid hpc
      clear hpc
      go_wp2_with fail
      refine (HPC.out _ _ ?gc).mono ?_
      case gc => exact Low.const_reads wb [97, 98] (2, 3) (by decide)
      rintro e wc ⟨As, cs, rfl, hR, hb⟩
      have hbb := below_then (below_alloc (Below.refl wb.heap.size wb) _) (by simp) hb
      replace HSx := Lib.hid (HSx.out.keep hbb)
      replace HBE := Lib.hid (below_then HBE.out HBE.out.size hbb)
      have HR := Lib.hid hR
      have e3 : (putF 5 [97, 98]).length = 11 := putF_length 5 [97, 98]
      have HE := Lib.hid e3
      have HCp := Low.copy_calls As cs (putF 5 [97, 98]) wc (Kd.R_reads' hR).2.2 (by rw [e3]; decide)
      rw [e3] at HCp
      replace HCp := Lib.hid HCp
      have hz := hb.size
      clear hb hbb hR e3 HPC hz
      go_wp2_with fail
      refine HCp.out.mono ?_
      rintro e wd ⟨v4, rfl, hR4, hb⟩
      have HR4 := Lib.hid hR4
      have HBd := Lib.hid hb
      have HCs := Lib.hid (show Kd.C ku8 wd As 11 (putF 5 [97, 98]) from by have h := (Kd.R_reads' (Kd.R_below HR.out hb)).2.2; rw [HE.out] at h; exact h)
      clear hR4 hb HCp
      have hl22 : ((putF 5 [97, 98]).length + 11) * 1 ≤ 140737488355328 := by rw [HE.out]; decide
      have HL22 := Lib.hid hl22
      clear hl22
      go_upto_region 22 with ((with_reducible refine gate_builtin (b := .append) (xs := #[.tmp 149, .tmp 150]) rfl ?_); at_builtin; refine Kd.R_append_rows ku8 (w0 := wc) wc.heap.size rfl (.tmp 149) (.tmp 150) 22 5 (.int .u8 0) 1 rfl Try.underlying22 Low.info8 rfl (by decide) (by omega) v4 (putF 5 [97, 98]) (putF 5 [97, 98]) _ _ _ (fun _ => True) (fun _ => False) rfl rfl HR4.out HCs.out (fun _ _ h => h) (fun _ h => h.elim) (fun _ _ => trivial) HBd.out HBd.out.size HL22.out ?_; intro v5 w5 ho hb _ _; have HO5 := Lib.hid ho; have HB5 := Lib.hid hb; clear ho hb)
      obtain ⟨g, cap5, hv5, _, _, cells5, hcl5⟩ := Kd.R_form HO5.out (by rw [List.length_append, HE.out]; decide)
      have e22 : (putF 5 [97, 98] ++ putF 5 [97, 98]).length = 22 := by rw [List.length_append, HE.out]
      rw [e22] at hv5
      subst hv5
      obtain ⟨ad5, e5, hx⟩ := Kd.at_int (Kd.R_reads' HO5.out).2.2 15 (by decide) (by rw [e22]; decide)
      cases e5
      rw [show rd (putF 5 [97, 98] ++ putF 5 [97, 98]) 15 = 5 from by decide +kernel] at hx
      have hx15 : w5.cell? ⟨g, 15, none⟩ = some (.int .u8 5) := by
        have h : w5.cell? ((⟨g, 0, none⟩ : Addr).add 15) = some (.int .u8 5) := hx
        simp only [add_plain, Nat.zero_add] at h
        exact h
      have hx15f := blk_frozen hcl5 15
      have HE22 := Lib.hid e22
      clear hx hcl5 e22
      go_wp2_with fail
      have hset := set_R (show Kd.R ku8 5 w5 wc.heap.size (fun _ => True) (.slice (some ⟨g, 0, none⟩) 22 cap5) (putF 5 [97, 98] ++ putF 5 [97, 98]) from by rw [← HE22.out]; exact HO5.out) 15 (by decide) 4 (by rw [show rd (putF 5 [97, 98] ++ putF 5 [97, 98]) ((15 : Nat) : Int) = 5 from by decide +kernel]; exact hx15)
      have hb6 : Below wc.heap.size wc (w5.setCell ⟨g, 15, none⟩ (.int .u8 4)) := HB5.out.setCell (Kd.R_base HO5.out g (by simp [Value.ownBlock])) _
      rw [show Go.bits .xor .u8 5 1 = 4 from by decide +kernel]
      obtain ⟨w6, hw6⟩ : ∃ W, W = w5.setCell ⟨g, 15, none⟩ (.int .u8 4) := ⟨_, rfl⟩
      rw [← hw6] at hset hb6 ⊢
      have HO6 := Lib.hid hset.1
      replace HSx := Lib.hid (HSx.out.keep hb6)
      replace HBE := Lib.hid (below_then HBE.out HBE.out.size hb6)
      clear hset hb6 hw6 hx15 hx15f HO5 HB5 HR4 HBd HCs HR
      refine (new_calls _).mono ?_
      rintro e w7 ⟨by_, hbe, rfl, hbx, hb⟩
      have HSy := Lib.hid (St.new (w0 := w6) hbx (by omega))
      have HB7 := Lib.hid hb
      have hft : feedF ((putF 5 [97, 98] ++ putF 5 [97, 98]).set 15 4) = ([⟨5, [97, 98]⟩], true, []) := by
        have h := (turned [⟨5, [97, 98]⟩, ⟨5, [97, 98]⟩] (fun f hf => by
          have e : f = ⟨5, [97, 98]⟩ := by simpa using hf
          rw [e]
          exact ⟨⟨by decide, by unfold Bytes; decide⟩, rfl⟩) 1 (by decide) 0 (by decide) 4 (by decide) (by decide +kernel)).2
        have e1 : putAll_ [⟨5, [97, 98]⟩, ⟨5, [97, 98]⟩] = putF 5 [97, 98] ++ putF 5 [97, 98] := by simp [putAll_]
        have e2 : (putAll_ (List.take 1 [(⟨5, [97, 98]⟩ : Fr), ⟨5, [97, 98]⟩])).length + 4 + 0 = 15 := by simp [putAll_, HE.out]
        rw [e1, e2] at h
        exact h
      have e22s : ((putF 5 [97, 98] ++ putF 5 [97, 98]).set 15 4).length = 22 := by rw [List.length_set, HE22.out]
      have hC6 := (Kd.R_reads' (Kd.R_below HO6.out hb)).2.2
      rw [e22s] at hC6
      have hbs : Bytes ((putF 5 [97, 98] ++ putF 5 [97, 98]).set 15 4) := fun x hx => by
        rcases List.mem_or_eq_of_mem_set hx with hx | rfl
        · exact ((putF_bytes (by unfold Bytes; decide)).append (putF_bytes (by unfold Bytes; decide))) x hx
        · decide
      have HFy := Lib.hid (feed_one HSy.out HB7.out ((putF 5 [97, 98] ++ putF 5 [97, 98]).set 15 4) (some ⟨g, 0, none⟩) 22 cap5 e22s hC6 (Kd.R_reads' HO6.out).2.1 (fun x hx => by cases hx) hbs (by decide) [⟨5, [97, 98]⟩] true [] 30 (by rw [feedS_new]; exact hft) rfl)
      clear hbe hbx hb hft e22s hC6 hbs
      go_wp2_with fail
      refine HFy.out.mono ?_
      rintro e w8 ⟨Ay, cy, A9, c9, rfl, _, _, _, hb⟩
      replace HSx := Lib.hid (HSx.out.keep hb)
      replace HBE := Lib.hid (below_then HBE.out HBE.out.size hb)
      clear hb HFy HSy HB7 HO6
      have HLf := Lib.hid (left_calls HSx.out.box (by decide))
      go_wp2_with fail
      refine HLf.out.mono ?_
      rintro e w' ⟨rfl, rfl⟩
      clear HLf
      go_wp2_with fail
      refine (awake_calls _).mono ?_
      rintro e w9 ⟨rfl, hb⟩
      replace HBE := Lib.hid (below_then HBE.out HBE.out.size hb)
      clear hb
      go_wp2
      go_ret
      exact ⟨rfl, HBE.out⟩
end Go.Proofs.Ytajlmjmhkhdmdaa.PF
