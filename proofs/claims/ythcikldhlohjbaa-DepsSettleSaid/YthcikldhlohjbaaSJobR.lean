/- job.Right's walk. (A part of the print PJ.) -/
import Derived.Test.YthcikldhlohjbaaSJobA
set_option linter.unusedVariables false
set_option linter.unusedSimpArgs false
namespace Go.Proofs.Ythcikldhlohjbaa.PS.Jb
open Go.RowKit Go.Proofs.YthcikldhlohjbaaW.PrintWords Go.Proofs.YthcikldhlohjbaaW.PrintLast Go.Proofs.YthcikldhlohjbaaW.PrintMore Go.Proofs.Ythcikldhlohjbaa.Ones
/-- What a region of Right holds of the world. -/
def RK (w0 : World) (b : Nat) (nd su sr on : Int) (C : Array Value) (w' : World) : Prop :=
  w'.cell? ⟨b, 7, none⟩ = some (.int .i64 nd) ∧ w'.cell? ⟨b, 12, none⟩ = some (.int .i64 su) ∧ w'.cell? ⟨b, 13, none⟩ = some (.int .i64 sr) ∧ w'.cell? ⟨b, 15, none⟩ = some (.int .u32 on) ∧ w'.heap[b]? = some (.cells C 43 (0, 0)) ∧ Below w0.heap.size w0 w'
theorem RK.keep {w0 w1 w2 : World} {b : Nat} {nd su sr on : Int} {C : Array Value} (h : RK w0 b nd su sr on C w1) (hb : Below w1.heap.size w1 w2) : RK w0 b nd su sr on C w2 := by
  obtain ⟨h0, h1, h2, h3, h4, h5⟩ := h
  exact ⟨(hb.cell (World.block_lt_of_cell? w1 _ h0)).trans h0, (hb.cell (World.block_lt_of_cell? w1 _ h1)).trans h1, (hb.cell (World.block_lt_of_cell? w1 _ h2)).trans h2, (hb.cell (World.block_lt_of_cell? w1 _ h3)).trans h3, blk_below h4 hb, below_then h5 h5.size hb⟩
set_option maxRecDepth 100000 in
set_option maxHeartbeats 4000000 in
theorem right_calls (x : S43) (A : Option Addr) (c : Nat) (w : World) (hu : 0 ≤ x.f8 ∧ x.f8 < 4294967296) (hr : Kd.C k104 w A x.f3.f7.length x.f3.f7) (hc : x.f3.f7.length ≤ c) :
    Calls Try.prog 48 #[jobV x A c] w fun e w' => e = .returned (.bool (rightJ x)) ∧ Below w.heap.size w w' := by
  have HS := Lib.hid (fun (W : World) (hW : Below w.heap.size w W) => shaped_calls x A c W (Kd.C_below hr hW) hc)
  have HN := Lib.hid (fun (W : World) => count_quiet x.f8 hu W)
  have HJ : Hid (rightJ x = (shapedJ x && rightS x.f4 x.f8 x.f7 x.f6 x.f9 (ranJ x) (waitedJ x) (overJ x))) := Lib.hid rfl
  have HRan : Hid (ranJ x = decide (ones x.f8 = x.f3.f4 ∧ x.f5 ≤ x.f6 ∧ x.f6 ≤ 1099511627776)) := Lib.hid rfl
  have HWa : Hid (waitedJ x = decide (x.f8 = 0 ∧ x.f6 = 0 ∧ x.f9 = 0)) := Lib.hid rfl
  have HOv : Hid (overJ x = decide (x.f5 ≤ x.f7 ∧ x.f7 ≤ 1099511627776)) := Lib.hid rfl
  clear hr hu
  obtain ⟨V, hV⟩ : ∃ V, V = jobV x A c := ⟨_, rfl⟩
  have HV := Lib.hid hV
  have hVc : V = .agg #[.int .i64 x.f0, .int .i64 x.f1, .int .i64 x.f2, .string x.f3.f0, .string x.f3.f1, .string x.f3.f2, .string x.f3.f3, .int .i64 x.f3.f4, .int .i64 x.f3.f5, .int .i64 x.f3.f6, .slice A x.f3.f7.length c, .int .u8 x.f4, .int .i64 x.f5, .int .i64 x.f6, .int .i64 x.f7, .int .u32 x.f8, .int .i64 x.f9] := hV
  rw [← hV]
  rw [hVc]
  clear hV
  go_enter Try.func48, Try.ntmps48
  go_upto_region 1 with (fail)
  generalize hWD : w.alloc (.cells _ 43) = WD
  obtain ⟨b, hbd⟩ : ∃ b, b = w.heap.size := ⟨_, rfl⟩
  rw [← hbd]
  rw [← hVc]
  have BK : Hid (JBox WD b x A c) := Lib.hid (by rw [← hWD, hbd]; exact blk_new _ _)
  have HB : Hid (Below w.heap.size w WD) := Lib.hid (by rw [← hWD]; exact below_alloc (Below.refl _ _) _)
  clear hWD hbd hVc
  have hld := BK.out.load
  rw [← HV.out] at hld
  go_wp2_with ((with_reducible refine gate_ (.load 43 (.tmp 1)) rfl ?_); refine wl_load 43 (.tmp 1) rfl rfl _ V rfl hld ?_)
  refine (HV.out ▸ HS.out WD HB.out).mono ?_
  rintro e w1 ⟨rfl, hb⟩
  replace BK := Lib.hid (BK.out.keep hb)
  replace HB := Lib.hid (below_then HB.out HB.out.size hb)
  clear hb hld HS
  obtain ⟨sh, hsh⟩ : ∃ s, s = shapedJ x := ⟨_, rfl⟩
  rw [← hsh] at HJ ⊢
  clear hsh
  cases sh with
  | false =>
    go_wp2
    go_ret
    exact ⟨by rw [HJ.out]; rfl, HB.out⟩
  | true =>
    go_upto_region 3 with (fail)
    obtain ⟨C, hC⟩ : ∃ C, C = jobC x A c := ⟨_, rfl⟩
    have HC := Lib.hid hC
    have hS : RK w b x.f3.f4 x.f5 x.f6 x.f8 C w1 := by
      rw [hC]
      exact ⟨BK.out.cell 7 rfl, BK.out.cell 12 rfl, BK.out.cell 13 rfl, BK.out.cell 15 rfl, BK.out, HB.out⟩
    clear hC BK HB
    unfold RK at hS
    generalize x.f3.f4 = nd at hS HRan ⊢
    obtain ⟨on1, hon1⟩ : ∃ n, n = ones x.f8 := ⟨_, rfl⟩
    rw [← hon1] at HRan HN
    replace hon1 := Lib.hid hon1
    obtain ⟨g7, g12, g13, g15, gBK, gHB⟩ := hS
    have BK := Lib.hid gBK
    have HB := Lib.hid gHB
    clear gBK gHB
    go_cut [3] (fun v3 wc => v3 = .bool (ranJ x) ∧ ∃ m, wc = w1.drewN m)
    case first =>
      cases h1 : (on1 == nd) <;> cases h2 : decide (x.f5 ≤ x.f6) <;> cases h3 : decide (x.f6 ≤ 1099511627776)
      all_goals
        have HR : Hid (ranJ x = (((on1 == nd) && decide (x.f5 ≤ x.f6)) && decide (x.f6 ≤ 1099511627776))) := Lib.hid (by rw [HRan.out, Bool.eq_iff_iff]; simp [and_assoc])
        rw [h1, h2, h3] at HR
        go_quiet ((go_at_call 53; exact Calls.quiet_of (HN.out _)))
        go_wp2
        go_meet
        case rel => exact ⟨by rw [HR.out]; rfl, _, rfl⟩
    case rest =>
      clear g7 g12 g13 g15 HRan hon1 HN
      obtain ⟨rfl, m, rfl⟩ := hcut
      have BJ : JBox (w1.drewN m) b x A c := by
        have := BK.out
        rw [HC.out] at this
        exact blk_drewN this m
      have HB2 := pw_below_drewN HB.out m
      clear BK HB
      have HB := Lib.hid HB2
      clear HB2
      generalize w1.drewN m = w2 at BJ HB ⊢
      have g11 : w2.cell? ⟨b, 11, none⟩ = some (.int .u8 x.f4) := BJ.cell 11 rfl
      have g12 : w2.cell? ⟨b, 12, none⟩ = some (.int .i64 x.f5) := BJ.cell 12 rfl
      have g13 : w2.cell? ⟨b, 13, none⟩ = some (.int .i64 x.f6) := BJ.cell 13 rfl
      have g14 : w2.cell? ⟨b, 14, none⟩ = some (.int .i64 x.f7) := BJ.cell 14 rfl
      have g15 : w2.cell? ⟨b, 15, none⟩ = some (.int .u32 x.f8) := BJ.cell 15 rfl
      have g16 : w2.cell? ⟨b, 16, none⟩ = some (.int .i64 x.f9) := BJ.cell 16 rfl
      clear BJ HC HV
      obtain ⟨ra, hra⟩ : ∃ r, r = ranJ x := ⟨_, rfl⟩
      rw [← hra] at HJ ⊢
      clear hra
      obtain ⟨wa, hwa⟩ : ∃ r, r = waitedJ x := ⟨_, rfl⟩
      rw [← hwa] at HJ HWa
      clear hwa
      obtain ⟨ov, hov⟩ : ∃ r, r = overJ x := ⟨_, rfl⟩
      rw [← hov] at HJ HOv
      clear hov
      go_upto_region 4 with (fail)
      go_cut [4] (fun v4 wc => v4 = .bool wa ∧ w2 = wc)
      case first =>
        cases h1 : (x.f8 == 0) <;> cases h2 : (x.f6 == 0) <;> cases h3 : (x.f9 == 0)
        all_goals
          have HR : Hid (wa = (((x.f8 == 0) && (x.f6 == 0)) && (x.f9 == 0))) := Lib.hid (by rw [HWa.out, Bool.eq_iff_iff]; simp [and_assoc])
          rw [h1, h2, h3] at HR
          go_wp2
          go_meet
          case rel => exact ⟨by rw [HR.out]; rfl, rfl⟩
      case rest =>
        obtain ⟨rfl, rfl⟩ := hcut
        clear HWa
        go_upto_region 5 with (fail)
        go_cut [5] (fun v5 wc => v5 = .bool ov ∧ w2 = wc)
        case first =>
          cases h1 : decide (x.f5 ≤ x.f7) <;> cases h2 : decide (x.f7 ≤ 1099511627776)
          all_goals
            have HR : Hid (ov = (decide (x.f5 ≤ x.f7) && decide (x.f7 ≤ 1099511627776))) := Lib.hid (by rw [HOv.out, Bool.eq_iff_iff]; simp [and_assoc])
            rw [h1, h2] at HR
            go_wp2
            go_meet
            case rel => exact ⟨by rw [HR.out]; rfl, rfl⟩
        case rest =>
          obtain ⟨rfl, rfl⟩ := hcut
          clear HOv
          have HT : Hid (rightJ x = rightS x.f4 x.f8 x.f7 x.f6 x.f9 ra wa ov) := Lib.hid (by rw [HJ.out]; rfl)
          clear HJ
          by_cases s1 : x.f4 = 1
          · have b1 : (x.f4 == 1) = true := beq_iff_eq.2 s1
            have HQ : Hid (rightJ x = (wa && decide (x.f7 = 0))) := Lib.hid (by rw [HT.out]; unfold rightS; rw [if_pos s1])
            clear HT
            cases wa with
            | false => (go_wp2; go_ret; exact ⟨by rw [HQ.out]; rfl, HB.out⟩)
            | true => (go_wp2; go_ret; exact ⟨by rw [HQ.out]; rfl, HB.out⟩)
          have b1 : (x.f4 == 1) = false := beq_eq_false_iff_ne.2 s1
          by_cases s2 : x.f4 = 2
          · have b2 : (x.f4 == 2) = true := beq_iff_eq.2 s2
            have HQ : Hid (rightJ x = (ra && decide (x.f7 = 0) && decide (x.f9 = 0))) := Lib.hid (by rw [HT.out]; unfold rightS; rw [if_neg s1]; rw [if_pos s2])
            clear HT
            cases ra with
            | false => (go_wp2; go_ret; exact ⟨by rw [HQ.out]; rfl, HB.out⟩)
            | true =>
              cases e1 : (x.f7 == 0) with
              | false => (have e1d : decide (x.f7 = 0) = false := e1; rw [e1d] at HQ; clear e1d; go_wp2; go_ret; exact ⟨by rw [HQ.out]; rfl, HB.out⟩)
              | true => (have e1d : decide (x.f7 = 0) = true := e1; rw [e1d] at HQ; clear e1d; go_wp2; go_ret; exact ⟨by rw [HQ.out]; rfl, HB.out⟩)
          have b2 : (x.f4 == 2) = false := beq_eq_false_iff_ne.2 s2
          by_cases s8 : x.f4 = 8
          · have b8 : (x.f4 == 8) = true := beq_iff_eq.2 s8
            have HQ : Hid (rightJ x = (wa && ov)) := Lib.hid (by rw [HT.out]; unfold rightS; rw [if_neg s1]; rw [if_neg s2]; rw [if_pos s8])
            clear HT
            cases wa with
            | false => (go_wp2; go_ret; exact ⟨by rw [HQ.out]; rfl, HB.out⟩)
            | true => (go_wp2; go_ret; exact ⟨by rw [HQ.out]; rfl, HB.out⟩)
          have b8 : (x.f4 == 8) = false := beq_eq_false_iff_ne.2 s8
          by_cases s6 : x.f4 = 6
          · have b6 : (x.f4 == 6) = true := beq_iff_eq.2 s6
            by_cases on0 : x.f8 = 0
            · have o0 : (x.f8 == 0) = true := beq_iff_eq.2 on0
              have HQ : Hid (rightJ x = (wa && ov)) := Lib.hid (by rw [HT.out]; unfold rightS; rw [if_neg s1]; rw [if_neg s2]; rw [if_neg s8]; rw [if_pos ⟨s6, on0⟩])
              clear HT
              cases wa with
              | false => (go_wp2; go_ret; exact ⟨by rw [HQ.out]; rfl, HB.out⟩)
              | true => (go_wp2; go_ret; exact ⟨by rw [HQ.out]; rfl, HB.out⟩)
            · have o0 : (x.f8 == 0) = false := beq_eq_false_iff_ne.2 on0
              have HQ : Hid (rightJ x = (ra && ov && decide (x.f6 ≤ x.f7) && decide (x.f9 = 0))) := Lib.hid (by rw [HT.out]; unfold rightS; rw [if_neg s1]; rw [if_neg s2]; rw [if_neg s8]; rw [if_neg (fun h => on0 h.2)]; rw [if_pos (Or.inl s6)])
              clear HT
              cases ra with
              | false => (go_wp2; go_ret; exact ⟨by rw [HQ.out]; rfl, HB.out⟩)
              | true =>
                cases ov with
                | false => (go_wp2; go_ret; exact ⟨by rw [HQ.out]; rfl, HB.out⟩)
                | true =>
                  cases e3 : decide (x.f6 ≤ x.f7) with
                  | false => (rw [e3] at HQ; go_wp2; go_ret; exact ⟨by rw [HQ.out]; rfl, HB.out⟩)
                  | true => (rw [e3] at HQ; go_wp2; go_ret; exact ⟨by rw [HQ.out]; rfl, HB.out⟩)
          have b6 : (x.f4 == 6) = false := beq_eq_false_iff_ne.2 s6
          by_cases s3 : x.f4 = 3
          · have b3 : (x.f4 == 3) = true := beq_iff_eq.2 s3
            have HQ : Hid (rightJ x = (ra && ov && decide (x.f6 ≤ x.f7) && decide (x.f9 = 0))) := Lib.hid (by rw [HT.out]; unfold rightS; rw [if_neg s1]; rw [if_neg s2]; rw [if_neg s8]; rw [if_neg (fun h => s6 h.1)]; rw [if_pos (Or.inr (Or.inl s3))])
            clear HT
            cases ra with
            | false => (go_wp2; go_ret; exact ⟨by rw [HQ.out]; rfl, HB.out⟩)
            | true =>
              cases ov with
              | false => (go_wp2; go_ret; exact ⟨by rw [HQ.out]; rfl, HB.out⟩)
              | true =>
                cases e3 : decide (x.f6 ≤ x.f7) with
                | false => (rw [e3] at HQ; go_wp2; go_ret; exact ⟨by rw [HQ.out]; rfl, HB.out⟩)
                | true => (rw [e3] at HQ; go_wp2; go_ret; exact ⟨by rw [HQ.out]; rfl, HB.out⟩)
          have b3 : (x.f4 == 3) = false := beq_eq_false_iff_ne.2 s3
          by_cases s5 : x.f4 = 5
          · have b5 : (x.f4 == 5) = true := beq_iff_eq.2 s5
            have HQ : Hid (rightJ x = (ra && ov && decide (x.f6 ≤ x.f7) && decide (x.f9 = 0))) := Lib.hid (by rw [HT.out]; unfold rightS; rw [if_neg s1]; rw [if_neg s2]; rw [if_neg s8]; rw [if_neg (fun h => s6 h.1)]; rw [if_pos (Or.inr (Or.inr (Or.inl s5)))])
            clear HT
            cases ra with
            | false => (go_wp2; go_ret; exact ⟨by rw [HQ.out]; rfl, HB.out⟩)
            | true =>
              cases ov with
              | false => (go_wp2; go_ret; exact ⟨by rw [HQ.out]; rfl, HB.out⟩)
              | true =>
                cases e3 : decide (x.f6 ≤ x.f7) with
                | false => (rw [e3] at HQ; go_wp2; go_ret; exact ⟨by rw [HQ.out]; rfl, HB.out⟩)
                | true => (rw [e3] at HQ; go_wp2; go_ret; exact ⟨by rw [HQ.out]; rfl, HB.out⟩)
          have b5 : (x.f4 == 5) = false := beq_eq_false_iff_ne.2 s5
          by_cases s7 : x.f4 = 7
          · have b7 : (x.f4 == 7) = true := beq_iff_eq.2 s7
            have HQ : Hid (rightJ x = (ra && ov && decide (x.f6 ≤ x.f7) && decide (x.f9 = 0))) := Lib.hid (by rw [HT.out]; unfold rightS; rw [if_neg s1]; rw [if_neg s2]; rw [if_neg s8]; rw [if_neg (fun h => s6 h.1)]; rw [if_pos (Or.inr (Or.inr (Or.inr s7)))])
            clear HT
            cases ra with
            | false => (go_wp2; go_ret; exact ⟨by rw [HQ.out]; rfl, HB.out⟩)
            | true =>
              cases ov with
              | false => (go_wp2; go_ret; exact ⟨by rw [HQ.out]; rfl, HB.out⟩)
              | true =>
                cases e3 : decide (x.f6 ≤ x.f7) with
                | false => (rw [e3] at HQ; go_wp2; go_ret; exact ⟨by rw [HQ.out]; rfl, HB.out⟩)
                | true => (rw [e3] at HQ; go_wp2; go_ret; exact ⟨by rw [HQ.out]; rfl, HB.out⟩)
          have b7 : (x.f4 == 7) = false := beq_eq_false_iff_ne.2 s7
          by_cases s4 : x.f4 = 4
          · have b4 : (x.f4 == 4) = true := beq_iff_eq.2 s4
            have HQ : Hid (rightJ x = (ra && ov && decide (x.f6 ≤ x.f7) && decide (x.f9 ≠ 0))) := Lib.hid (by rw [HT.out]; unfold rightS; rw [if_neg s1]; rw [if_neg s2]; rw [if_neg s8]; rw [if_neg (fun h => s6 h.1)]; rw [if_neg (show ¬ (x.f4 = 6 ∨ x.f4 = 3 ∨ x.f4 = 5 ∨ x.f4 = 7) from fun h => h.elim s6 (fun h => h.elim s3 (fun h => h.elim s5 s7)))]; rw [if_pos s4])
            clear HT
            cases ra with
            | false => (go_wp2; go_ret; exact ⟨by rw [HQ.out]; rfl, HB.out⟩)
            | true =>
              cases ov with
              | false => (go_wp2; go_ret; exact ⟨by rw [HQ.out]; rfl, HB.out⟩)
              | true =>
                cases e3 : decide (x.f6 ≤ x.f7) with
                | false => (rw [e3] at HQ; go_wp2; go_ret; exact ⟨by rw [HQ.out]; first | rfl | (simp only [ne_eq, decide_not]; rfl), HB.out⟩)
                | true => (rw [e3] at HQ; go_wp2; go_ret; exact ⟨by rw [HQ.out]; first | rfl | (simp only [ne_eq, decide_not]; rfl), HB.out⟩)
          have b4 : (x.f4 == 4) = false := beq_eq_false_iff_ne.2 s4
          have HQ : Hid (rightJ x = (false)) := Lib.hid (by rw [HT.out]; unfold rightS; rw [if_neg s1]; rw [if_neg s2]; rw [if_neg s8]; rw [if_neg (fun h => s6 h.1)]; rw [if_neg (show ¬ (x.f4 = 6 ∨ x.f4 = 3 ∨ x.f4 = 5 ∨ x.f4 = 7) from fun h => h.elim s6 (fun h => h.elim s3 (fun h => h.elim s5 s7)))]; rw [if_neg s4])
          clear HT
          go_wp2
          go_ret
          exact ⟨by first | (rw [HQ.out]; done) | (rw [HQ.out]; rfl), HB.out⟩
end Go.Proofs.Ythcikldhlohjbaa.PS.Jb
