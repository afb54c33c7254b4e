/- job.Finish and job.Begin once more: what they hand out has its dependencies in memory of its own. (A part of the print PJ.) -/
import Derived.Test.YthcikldhlohjbaaSJobG
set_option linter.unusedVariables false
set_option linter.unusedSimpArgs false
namespace Go.Proofs.Ythcikldhlohjbaa.PS.Jb
open Go.RowKit Go.Proofs.YthcikldhlohjbaaW.PrintWords Go.Proofs.YthcikldhlohjbaaW.PrintLast Go.Proofs.YthcikldhlohjbaaW.PrintMore Go.Proofs.Ythcikldhlohjbaa.Ones
attribute [local go_sem] max2_int min2_int max_two min_two max_three min_three max_four min_four
set_option maxRecDepth 100000 in
set_option maxHeartbeats 4000000 in
theorem finish_callsR {x : S43} (st ex now : Int) (h : JOk x) (A : Option Addr) (c : Nat) (w : World) (hv : JV w x A c) :
    Calls Try.prog 26 #[jobV x A c, .int .u8 st, .int .i64 ex, .int .i64 now] w fun e w' => ∃ A' c', e = .returned (.tuple #[jobV (finishJ x st ex now).1 A' c', .int .i64 (finishJ x st ex now).2]) ∧ JV w' (finishJ x st ex now).1 A' c' ∧ Kd.R k104 104 w' w.heap.size (fun _ => True) (.slice A' (finishJ x st ex now).1.f3.f7.length c') (finishJ x st ex now).1.f3.f7 ∧ Below w.heap.size w w' := by
  have HV := Lib.hid hv
  have HX := Lib.hid h
  clear hv h
  rw [show jobV x A c = .agg #[.int .i64 x.f0, .int .i64 x.f1, .int .i64 x.f2, .string x.f3.f0, .string x.f3.f1, .string x.f3.f2, .string x.f3.f3, .int .i64 x.f3.f4, .int .i64 x.f3.f5, .int .i64 x.f3.f6, .slice A x.f3.f7.length c, .int .u8 x.f4, .int .i64 x.f5, .int .i64 x.f6, .int .i64 x.f7, .int .u32 x.f8, .int .i64 x.f9] from rfl]
  go_enter Try.func26, Try.ntmps26
  go_upto_region 1 with (fail)
  generalize hWD : (w.alloc (.cells _ 43)).alloc (.cells _ 43) = WD
  have es := size_al
  obtain ⟨b4, hb4⟩ : ∃ b, b = w.heap.size := ⟨_, rfl⟩
  obtain ⟨b8, hb8⟩ : ∃ b, b = w.heap.size + 1 := ⟨_, rfl⟩
  rw [← hb8, ← hb4]
  have hne : b8 ≠ b4 := by omega
  have hg8 : w.heap.size ≤ b8 := by omega
  have hg4 : w.heap.size ≤ b4 := by omega
  have NE := Lib.hid (And.intro hne (And.intro hg8 hg4))
  have K : Hid (JBox WD b4 x A c) := Lib.hid (by rw [← hWD, hb4]; exact blk_alloc (blk_new _ _) _)
  have Z : Hid (JBox WD b8 z43 none 0) := Lib.hid (by rw [← hWD, hb8, ← es]; exact blk_new _ _)
  have hk : Below w.heap.size w WD := by rw [← hWD]; exact below_alloc (below_alloc (Below.refl _ _) _) _
  replace HV := Lib.hid (HV.out.keep hk)
  have HB := Lib.hid hk
  clear hWD es hb4 hb8 hk hne hg8 hg4
  go_cut [10] (fun v10 wc => v10 = .bool (badF x now) ∧ Hid (JBox wc b4 x A c) ∧ Hid (JBox wc b8 z43 none 0) ∧ Hid (JV wc x A c) ∧ Hid (Below w.heap.size w wc))
  case first =>
    as_aux_lemma =>
    have g11 : WD.cell? ⟨b4, 11, none⟩ = some (.int .u8 x.f4) := K.out.cell 11 rfl
    have hld := K.out.load
    go_wp2_with ((with_reducible refine gate_ (.load 43 (.tmp 4)) rfl ?_); refine wl_load 43 (.tmp 4) rfl rfl _ _ rfl hld ?_)
    refine (right_calls x A c _ HX.out.1 HV.out.2 HV.out.1).mono ?_
    rintro e w1 ⟨rfl, hb⟩
    replace K := Lib.hid (K.out.keep hb)
    replace Z := Lib.hid (Z.out.keep hb)
    replace HV := Lib.hid (HV.out.keep hb)
    replace HB := Lib.hid (below_then HB.out HB.out.size hb)
    clear hb hld g11
    have g11 : w1.cell? ⟨b4, 11, none⟩ = some (.int .u8 x.f4) := K.out.cell 11 rfl
    have g12 : w1.cell? ⟨b4, 12, none⟩ = some (.int .i64 x.f5) := K.out.cell 12 rfl
    have g13 : w1.cell? ⟨b4, 13, none⟩ = some (.int .i64 x.f6) := K.out.cell 13 rfl
    have HBad := Lib.hid (badF_eq x now)
    obtain ⟨rj, hrj⟩ : ∃ r, r = rightJ x := ⟨_, rfl⟩
    rw [← hrj] at HBad ⊢
    clear hrj
    obtain ⟨mxx, hmx⟩ : ∃ m, m = (if x.f5 < x.f6 then x.f6 else x.f5) := ⟨_, rfl⟩
    have hmx2 := hmx.symm
    rw [← hmx] at HBad
    clear hmx
    cases rj with
    | false =>
      go_wp2
      go_meet
      case rel => exact ⟨by rw [HBad.out]; rfl, K, Z, HV, HB⟩
    | true =>
      cases d1 : decide (now < mxx) with
      | true =>
        go_wp2_with fail
        refine (over_calls x.f4 _).mono ?_
        rintro e w2 ⟨rfl, hb⟩
        replace K := Lib.hid (K.out.keep hb)
        replace Z := Lib.hid (Z.out.keep hb)
        replace HV := Lib.hid (HV.out.keep hb)
        replace HB := Lib.hid (below_then HB.out HB.out.size hb)
        clear hb g11 g12 g13
        have g12 : w2.cell? ⟨b4, 12, none⟩ = some (.int .i64 x.f5) := K.out.cell 12 rfl
        obtain ⟨ov, hov⟩ : ∃ r, r = overS x.f4 := ⟨_, rfl⟩
        rw [← hov] at HBad ⊢
        clear hov
        rw [d1] at HBad
        cases ov with
        | false =>
          go_wp2
          go_meet
          case rel => exact ⟨by rw [HBad.out]; rfl, K, Z, HV, HB⟩
        | true =>
          cases d2 : decide (now < x.f5) <;> cases d3 : decide (1099511627776 < now)
          all_goals
            rw [d2, d3] at HBad
            go_wp2
            go_meet
            case rel => exact ⟨by rw [HBad.out]; rfl, K, Z, HV, HB⟩
      | false =>
        rw [d1] at HBad
        cases d2 : decide (now < x.f5) <;> cases d3 : decide (1099511627776 < now)
        all_goals
          rw [d2, d3] at HBad
          go_wp2
          go_meet
          case rel => exact ⟨by rw [HBad.out]; rfl, K, Z, HV, HB⟩
  case rest =>
    as_aux_lemma =>
    clear K Z HV HB
    obtain ⟨rfl, K, Z, HV, HB⟩ := hcut
    have HF : Hid (finishJ x st ex now = if badF x now = true then (z43, 2) else if decide (st ∈ nextL x.f4) = true then ({ x with f4 := st, f7 := now, f9 := if st = 4 then (if ex = 0 then 1 else ex) else x.f9 }, 0) else (z43, 180)) := Lib.hid (by
      unfold finishJ badF
      by_cases hh : rightJ x = true ∧ (max x.f5 x.f6 ≤ now ∨ overS x.f4 = true) ∧ x.f5 ≤ now ∧ now ≤ 1099511627776
      · rw [if_pos hh, decide_eq_true hh]; simp
      · rw [if_neg hh, decide_eq_false hh]; rfl)
    generalize badF x now = bd at HF ⊢
    cases bd with
    | true =>
      rw [if_pos rfl] at HF
      have z0 := Z.out
      go_wp2_with ((with_reducible refine gate_ (.store 43 (.tmp 8) (.tmp 39)) rfl ?_); refine st_job 43 (.tmp 8) (.tmp 39) (cells := jobC z43 none 0) rfl rfl rfl rfl z0 job_info rfl (jobC_one _ _ _) ?_; intro W5 h5 h6 h7)
      replace HB := Lib.hid (h7 _ _ NE.out.2.1 HB.out)
      refine bodyPost_ret (results_ct rfl _ _ b8 43 _ (0, 0) _ rfl h5 Try.underlying43 rfl job_info) rfl ?_
      exact ⟨none, 0, by rw [HF.out]; rfl, by rw [HF.out]; exact ⟨Nat.le_refl _, Kd.C_nil _ _⟩, by rw [HF.out]; exact Kd.R_nil _ _ _ _ _, HB.out⟩
    | false =>
      rw [if_neg (by decide)] at HF
      have g11 : wc.cell? ⟨b4, 11, none⟩ = some (.int .u8 x.f4) := K.out.cell 11 rfl
      go_wp2_with fail
      refine (job_next.calls x.f4 (nextL x.f4) _ (next_f x.f4)).mono ?_
      rintro e w3 ⟨vn, rfl, hrn, hb⟩
      obtain ⟨An, cn, rfl, hcn⟩ := contains_calls x.f4 st vn w3 w3 _ hrn
      have HCN := Lib.hid hcn
      replace K := Lib.hid (K.out.keep hb)
      replace Z := Lib.hid (Z.out.keep hb)
      replace HV := Lib.hid (HV.out.keep hb)
      replace HB := Lib.hid (below_then HB.out HB.out.size hb)
      clear hb g11 hrn hcn
      go_wp2_with fail
      refine HCN.out.mono ?_
      rintro e w4 ⟨rfl, hb⟩
      replace K := Lib.hid (K.out.keep hb)
      replace Z := Lib.hid (Z.out.keep hb)
      replace HV := Lib.hid (HV.out.keep hb)
      replace HB := Lib.hid (below_then HB.out HB.out.size hb)
      clear hb HCN
      generalize decide (st ∈ nextL x.f4) = ct at HF ⊢
      cases ct with
      | false =>
        rw [if_neg (by decide)] at HF
        have z0 := Z.out
        go_wp2_with ((with_reducible refine gate_ (.store 43 (.tmp 8) (.tmp 47)) rfl ?_); refine st_job 43 (.tmp 8) (.tmp 47) (cells := jobC z43 none 0) rfl rfl rfl rfl z0 job_info rfl (jobC_one _ _ _) ?_; intro W5 h5 h6 h7)
        replace HB := Lib.hid (h7 _ _ NE.out.2.1 HB.out)
        refine bodyPost_ret (results_ct rfl _ _ b8 43 _ (0, 0) _ rfl h5 Try.underlying43 rfl job_info) rfl ?_
        exact ⟨none, 0, by rw [HF.out]; rfl, by rw [HF.out]; exact ⟨Nat.le_refl _, Kd.C_nil _ _⟩, by rw [HF.out]; exact Kd.R_nil _ _ _ _ _, HB.out⟩
      | true =>
        rw [if_pos rfl] at HF
        as_aux_lemma =>
        have g10 : w4.cell? ⟨b4, 10, none⟩ = some (.slice A x.f3.f7.length c) := K.out.cell 10 rfl
        have HCl := Lib.hid (api_Dep_81.calls A c x.f3.f7 x.f3.f7 w4 HV.out.2 HV.out.1 (by unfold api_Dep_81.f; rw [if_pos HX.out.2]))
        go_upto_region 5 with (fail)
        go_wp2_with fail
        refine HCl.out.mono ?_
        rintro e w5 ⟨v0, rfl, hr, hb⟩
        obtain ⟨A5, c5, rfl, h51, h52⟩ := open_R hr
        have HR := Lib.hid (Kd.R_newB (Kd.R_newB hr K.out) Z.out)
        have HLw := Lib.hid HB.out.size
        replace K := Lib.hid (K.out.keep hb)
        replace Z := Lib.hid (Z.out.keep hb)
        replace HB := Lib.hid (below_then HB.out HB.out.size hb)
        clear hb g10 HCl hr h51 h52 HV
        have g10 : w5.cell? ⟨b4, 10, none⟩ = some (.slice A x.f3.f7.length c) := K.out.cell 10 rfl
        have g10f := blk_frozen K.out 10
        have g11 : w5.cell? ⟨b4, 11, none⟩ = some (.int .u8 x.f4) := K.out.cell 11 rfl
        have g11f := blk_frozen K.out 11
        have g14 : w5.cell? ⟨b4, 14, none⟩ = some (.int .i64 x.f7) := K.out.cell 14 rfl
        have g14f := blk_frozen K.out 14
        go_upto_region 7 with (fail)
        generalize hWD : (World.setCell (World.setCell (World.setCell w5 ⟨b4, 10, none⟩ (.slice A5 x.f3.f7.length c5)) ⟨b4, 11, none⟩ (.int .u8 st)) ⟨b4, 14, none⟩ (.int .i64 now)) = W7
        replace HR := Lib.hid (show Kd.R k104 104 W7 w4.heap.size (fun k => (True ∧ k ≠ b4) ∧ k ≠ b8) (.slice A5 x.f3.f7.length c5) x.f3.f7 by rw [← hWD]; exact (Kd.R_far (p := ⟨b4, 14, none⟩) (Kd.R_far (p := ⟨b4, 11, none⟩) (Kd.R_far (p := ⟨b4, 10, none⟩) HR.out (fun k hk => hk.1.2) (.slice A5 x.f3.f7.length c5)) (fun k hk => hk.1.2) (.int .u8 st)) (fun k hk => hk.1.2) (.int .i64 now)))
        replace HB := Lib.hid (show Below w.heap.size w W7 by rw [← hWD]; exact (HB_set (HB_set (HB_set HB.out NE.out.2.2 10 (.slice A5 x.f3.f7.length c5)) NE.out.2.2 11 (.int .u8 st)) NE.out.2.2 14 (.int .i64 now)))
        replace Z := Lib.hid (show JBox W7 b8 z43 none 0 by rw [← hWD]; exact (blk_far (blk_far (blk_far Z.out (p := ⟨b4, 10, none⟩) NE.out.1 (.slice A5 x.f3.f7.length c5)) (p := ⟨b4, 11, none⟩) NE.out.1 (.int .u8 st)) (p := ⟨b4, 14, none⟩) NE.out.1 (.int .i64 now)))
        replace K := Lib.hid (show JBox W7 b4 ({ x with f4 := st, f7 := now } : S43) A5 c5 by rw [← hWD]; exact (blk_set (blk_set (blk_set K.out 10 (.slice A5 x.f3.f7.length c5)) 11 (.int .u8 st)) 14 (.int .i64 now)))
        clear hWD
        clear g10 g10f g11 g11f g14 g14f
        by_cases c4 : st = 4
        · have c4b : (st == 4) = true := beq_iff_eq.2 c4
          rw [if_pos c4] at HF
          have g16 : W7.cell? ⟨b4, 16, none⟩ = some (.int .i64 x.f9) := K.out.cell 16 rfl
          have g16f := blk_frozen K.out 16
          clear c4
          go_upto_region 9 with (fail)
          generalize hWD : (World.setCell W7 ⟨b4, 16, none⟩ (.int .i64 ex)) = W8
          replace HR := Lib.hid (show Kd.R k104 104 W8 w4.heap.size (fun k => (True ∧ k ≠ b4) ∧ k ≠ b8) (.slice A5 x.f3.f7.length c5) x.f3.f7 by rw [← hWD]; exact (Kd.R_far (p := ⟨b4, 16, none⟩) HR.out (fun k hk => hk.1.2) (.int .i64 ex)))
          replace HB := Lib.hid (show Below w.heap.size w W8 by rw [← hWD]; exact (HB_set HB.out NE.out.2.2 16 (.int .i64 ex)))
          replace Z := Lib.hid (show JBox W8 b8 z43 none 0 by rw [← hWD]; exact (blk_far Z.out (p := ⟨b4, 16, none⟩) NE.out.1 (.int .i64 ex)))
          replace K := Lib.hid (show JBox W8 b4 ({ x with f4 := st, f7 := now, f9 := ex } : S43) A5 c5 by rw [← hWD]; exact (blk_set K.out 16 (.int .i64 ex)))
          clear hWD
          clear g16 g16f
          by_cases c0 : ex = 0
          · have c0b : (ex == 0) = true := beq_iff_eq.2 c0
            rw [if_pos c0] at HF
            have g16 : W8.cell? ⟨b4, 16, none⟩ = some (.int .i64 ex) := K.out.cell 16 rfl
            have g16f := blk_frozen K.out 16
            clear c0
            go_upto_region 11 with (fail)
            generalize hWD : (World.setCell W8 ⟨b4, 16, none⟩ (.int .i64 1)) = W10
            replace HR := Lib.hid (show Kd.R k104 104 W10 w4.heap.size (fun k => (True ∧ k ≠ b4) ∧ k ≠ b8) (.slice A5 x.f3.f7.length c5) x.f3.f7 by rw [← hWD]; exact (Kd.R_far (p := ⟨b4, 16, none⟩) HR.out (fun k hk => hk.1.2) (.int .i64 1)))
            replace HB := Lib.hid (show Below w.heap.size w W10 by rw [← hWD]; exact (HB_set HB.out NE.out.2.2 16 (.int .i64 1)))
            replace Z := Lib.hid (show JBox W10 b8 z43 none 0 by rw [← hWD]; exact (blk_far Z.out (p := ⟨b4, 16, none⟩) NE.out.1 (.int .i64 1)))
            replace K := Lib.hid (show JBox W10 b4 ({ x with f4 := st, f7 := now, f9 := 1 } : S43) A5 c5 by rw [← hWD]; exact (blk_set K.out 16 (.int .i64 1)))
            clear hWD
            clear g16 g16f
            have hld := K.out.load
            have z0 := Z.out
            go_wp2_with (first | ((with_reducible refine gate_ (.load 43 (.tmp 4)) rfl ?_); refine wl_load 43 (.tmp 4) rfl rfl _ _ rfl hld ?_) | ((with_reducible refine gate_ (.store 43 (.tmp 8) (.tmp 65)) rfl ?_); refine st_job 43 (.tmp 8) (.tmp 65) (cells := jobC ({ x with f4 := st, f7 := now, f9 := 1 } : S43) A5 c5) rfl rfl rfl rfl z0 job_info rfl (jobC_one _ _ _) ?_; intro W9 h5 h6 h7))
            replace HB := Lib.hid (h7 _ _ NE.out.2.1 HB.out)
            have HR9 := Kd.R_step HR.out (fun k hk _ => h6 k hk.2)
            refine bodyPost_ret (results_ct rfl _ _ b8 43 _ (0, 0) _ rfl h5 Try.underlying43 rfl job_info) rfl ?_
            exact ⟨A5, c5, by rw [HF.out]; rfl, by rw [HF.out]; exact ⟨(Kd.R_reads' HR9).2.1, (Kd.R_reads' HR9).2.2⟩, by rw [HF.out]; exact Kd.R_mono (Kd.R_lower HR9 HLw.out) (fun _ _ => trivial), HB.out⟩
          · have c0b : (ex == 0) = false := beq_eq_false_iff_ne.2 c0
            rw [if_neg c0] at HF
            clear c0
            go_upto_region 11 with (fail)
            have hld := K.out.load
            have z0 := Z.out
            go_wp2_with (first | ((with_reducible refine gate_ (.load 43 (.tmp 4)) rfl ?_); refine wl_load 43 (.tmp 4) rfl rfl _ _ rfl hld ?_) | ((with_reducible refine gate_ (.store 43 (.tmp 8) (.tmp 65)) rfl ?_); refine st_job 43 (.tmp 8) (.tmp 65) (cells := jobC ({ x with f4 := st, f7 := now, f9 := ex } : S43) A5 c5) rfl rfl rfl rfl z0 job_info rfl (jobC_one _ _ _) ?_; intro W9 h5 h6 h7))
            replace HB := Lib.hid (h7 _ _ NE.out.2.1 HB.out)
            have HR9 := Kd.R_step HR.out (fun k hk _ => h6 k hk.2)
            refine bodyPost_ret (results_ct rfl _ _ b8 43 _ (0, 0) _ rfl h5 Try.underlying43 rfl job_info) rfl ?_
            exact ⟨A5, c5, by rw [HF.out]; rfl, by rw [HF.out]; exact ⟨(Kd.R_reads' HR9).2.1, (Kd.R_reads' HR9).2.2⟩, by rw [HF.out]; exact Kd.R_mono (Kd.R_lower HR9 HLw.out) (fun _ _ => trivial), HB.out⟩
        · have c4b : (st == 4) = false := beq_eq_false_iff_ne.2 c4
          rw [if_neg c4] at HF
          clear c4
          go_upto_region 11 with (fail)
          have hld := K.out.load
          have z0 := Z.out
          go_wp2_with (first | ((with_reducible refine gate_ (.load 43 (.tmp 4)) rfl ?_); refine wl_load 43 (.tmp 4) rfl rfl _ _ rfl hld ?_) | ((with_reducible refine gate_ (.store 43 (.tmp 8) (.tmp 65)) rfl ?_); refine st_job 43 (.tmp 8) (.tmp 65) (cells := jobC ({ x with f4 := st, f7 := now } : S43) A5 c5) rfl rfl rfl rfl z0 job_info rfl (jobC_one _ _ _) ?_; intro W9 h5 h6 h7))
          replace HB := Lib.hid (h7 _ _ NE.out.2.1 HB.out)
          have HR9 := Kd.R_step HR.out (fun k hk _ => h6 k hk.2)
          refine bodyPost_ret (results_ct rfl _ _ b8 43 _ (0, 0) _ rfl h5 Try.underlying43 rfl job_info) rfl ?_
          exact ⟨A5, c5, by rw [HF.out]; rfl, by rw [HF.out]; exact ⟨(Kd.R_reads' HR9).2.1, (Kd.R_reads' HR9).2.2⟩, by rw [HF.out]; exact Kd.R_mono (Kd.R_lower HR9 HLw.out) (fun _ _ => trivial), HB.out⟩
set_option maxRecDepth 100000 in
set_option maxHeartbeats 8000000 in
theorem begin_callsR {x : S43} {on : Int} (now : Int) (h : JOk x) (ho : u32ok on) (A : Option Addr) (c : Nat) (w : World) (hv : JV w x A c) :
    Calls Try.prog 27 #[jobV x A c, .int .u32 on, .int .i64 now] w fun e w' => ∃ A' c', e = .returned (.tuple #[jobV (beginJ x on now).1 A' c', .int .i64 (beginJ x on now).2]) ∧ JV w' (beginJ x on now).1 A' c' ∧ Kd.R k104 104 w' w.heap.size (fun _ => True) (.slice A' (beginJ x on now).1.f3.f7.length c') (beginJ x on now).1.f3.f7 ∧ Below w.heap.size w w' := by
  have HV := Lib.hid hv
  have HX := Lib.hid h
  have HO := Lib.hid ho
  clear hv h ho
  rw [show jobV x A c = .agg #[.int .i64 x.f0, .int .i64 x.f1, .int .i64 x.f2, .string x.f3.f0, .string x.f3.f1, .string x.f3.f2, .string x.f3.f3, .int .i64 x.f3.f4, .int .i64 x.f3.f5, .int .i64 x.f3.f6, .slice A x.f3.f7.length c, .int .u8 x.f4, .int .i64 x.f5, .int .i64 x.f6, .int .i64 x.f7, .int .u32 x.f8, .int .i64 x.f9] from rfl]
  go_enter Try.func27, Try.ntmps27
  go_upto_region 1 with (fail)
  generalize hWD : (w.alloc (.cells _ 43)).alloc (.cells _ 43) = WD
  have es := size_al
  obtain ⟨b3, hb3⟩ : ∃ b, b = w.heap.size := ⟨_, rfl⟩
  obtain ⟨b6, hb6⟩ : ∃ b, b = w.heap.size + 1 := ⟨_, rfl⟩
  rw [← hb6, ← hb3]
  have hne : b6 ≠ b3 := by omega
  have hg6 : w.heap.size ≤ b6 := by omega
  have hg3 : w.heap.size ≤ b3 := by omega
  have NE := Lib.hid (And.intro hne (And.intro hg6 hg3))
  have K : Hid (JBox WD b3 x A c) := Lib.hid (by rw [← hWD, hb3]; exact blk_alloc (blk_new _ _) _)
  have Z : Hid (JBox WD b6 z43 none 0) := Lib.hid (by rw [← hWD, hb6, ← es]; exact blk_new _ _)
  have hk : Below w.heap.size w WD := by rw [← hWD]; exact below_alloc (below_alloc (Below.refl _ _) _) _
  replace HV := Lib.hid (HV.out.keep hk)
  have HB := Lib.hid hk
  clear hWD es hb3 hb6 hk hne hg6 hg3
  (try simp only [Act.put, List.setIfInBounds_toArray, List.set_cons_zero, List.set_cons_succ])
  go_cut [8] (fun v8 wc => v8 = .bool (badB x on now) ∧ Hid (JBox wc b3 x A c) ∧ Hid (JBox wc b6 z43 none 0) ∧ Hid (JV wc x A c) ∧ Hid (Below w.heap.size w wc))
  case first =>
    as_aux_lemma =>
    have HBad := Lib.hid (badB_eq x on now)
    cases hrj : rightJ x with
    | false =>
      as_aux_lemma =>
      rw [hrj] at HBad
      try go_wp2
      replace K := Lib.hid (blk_drew K.out)
      replace Z := Lib.hid (blk_drew Z.out)
      replace HV := Lib.hid (show JV WD.drew x A c from HV.out.keep (below_drew (Below.refl _ _)))
      replace HB := Lib.hid (below_drew HB.out)
      refine start_ (n := 22) (S := fun w' => w'.cell? ⟨b3, 7, none⟩ = some (.int .i64 x.f3.f4) ∧ w'.cell? ⟨b3, 12, none⟩ = some (.int .i64 x.f5) ∧ JBox w' b3 x A c) (ds := []) #[false, false, false, false, false, false, false, false, false, false, false, false, false, false, false, false, false, false, false, false, false, false] (by kernel_rfl) rfl rfl ⟨JBox.cell K.out 7 rfl, JBox.cell K.out 12 rfl, K.out⟩ (fun hHeld => ?_)
      refine with_tabW job_Begin.tab1 job_Begin.bits1 (fun HT_ HW_ => ?_)
      generalize WD.drew = W2 at K Z HV HB hHeld ⊢
      refine take_ (i := 0) (N := some 9) (v := ?_) (a' := ?_) #[true, false, false, false, false, false, false, false, false, false, false, false, false, false, false, false, false, false, false, false, false, false] rfl rfl (take_ofW HT_.out HW_.out (by kernel_rfl)) (fun _ _ _ h => h) (Or.inl ⟨by rfl, ?_⟩) hHeld ?_ ?_
      rotate_left
      · rintro w' ⟨s0, s1, s2⟩
        refine Eq.trans (exec_load (by rfl) (by rfl) (JBox.load s2)) ?_
        with_reducible rfl
      rotate_left
      · simp only [Act.put, List.setIfInBounds_toArray, List.set_cons_zero, List.set_cons_succ, i64_w, i32_w]
        rfl
      refine one_ (i := 1) (N := some 10) #[true, true, false, false, false, false, false, false, false, false, false, false, false, false, false, false, false, false, false, false, false, false] rfl rfl (one_of HT_.out (by kernel_rfl)) (by decide) (fun K9 hK => ?_)
      refine goes_ Try.func48 (by kernel_rfl) rfl #[jobV x A c] (by rfl) rfl rfl (by (try simp only [List.map_toArray, List.map_cons, List.map_nil]); first | done | rfl) ?_
      refine (right_calls x A c _ HX.out.1 HV.out.2 HV.out.1).mono ?_
      rintro e W3 ⟨he, hb⟩
      rw [hrj] at he
      subst he
      refine ⟨_, rfl, ?_⟩
      replace K := Lib.hid (JBox.keep K.out hb)
      replace Z := Lib.hid (JBox.keep Z.out hb)
      replace HV := Lib.hid (HV.out.keep hb)
      replace HB := Lib.hid (below_then HB.out HB.out.size hb)
      clear hb
      refine hK.out _ _ ⟨JBox.cell K.out 7 rfl, JBox.cell K.out 12 rfl, K.out⟩ (fun hHeld => ?_)
      clear hK K9
      refine norm_ (a' := ?_) ?_ ?_
      rotate_left
      · show Act.put _ (some 10) _ = _
        simp only [Act.put, List.setIfInBounds_toArray, List.set_cons_zero, List.set_cons_succ, i64_w, i32_w]
        rfl
      refine pure_ (i := 2) (N := some 11) (v := ?_) (a' := ?_) #[true, true, true, false, false, false, false, false, false, false, false, false, false, false, false, false, false, false, false, false, false, false] rfl rfl (any_of HT_.out (by kernel_rfl)) (fun _ _ _ h => h) (Or.inl ⟨by rfl, ?_⟩) ?_ ?_
      rotate_left
      · intro w'
        go_simp
        with_reducible rfl
      rotate_left
      · simp only [Act.put, List.setIfInBounds_toArray, List.set_cons_zero, List.set_cons_succ, i64_w, i32_w]
        rfl
      refine pure_ (i := 3) (N := some 12) (v := ?_) (a' := ?_) #[true, true, true, true, false, false, false, false, false, false, false, false, false, false, false, false, false, false, false, false, false, false] rfl rfl (any_of HT_.out (by kernel_rfl)) (fun _ _ _ h => h) (Or.inl ⟨by rfl, ?_⟩) ?_ ?_
      rotate_left
      · intro w'
        go_simp
        with_reducible rfl
      rotate_left
      · simp only [Act.put, List.setIfInBounds_toArray, List.set_cons_zero, List.set_cons_succ, i64_w, i32_w]
        rfl
      refine pure_ (i := 4) (N := some 13) (v := undef) (a' := ?_) #[true, true, true, true, true, false, false, false, false, false, false, false, false, false, false, false, false, false, false, false, false, false] rfl rfl (any_of HT_.out (by kernel_rfl)) (fun _ _ _ h => h) (Or.inr ⟨by rfl, rfl⟩) ?_ ?_
      rotate_left
      · simp only [Act.put, List.setIfInBounds_toArray, List.set_cons_zero, List.set_cons_succ, i64_w, i32_w]
        rfl
      refine pure_ (i := 5) (N := some 14) (v := undef) (a' := ?_) #[true, true, true, true, true, true, false, false, false, false, false, false, false, false, false, false, false, false, false, false, false, false] rfl rfl (any_of HT_.out (by kernel_rfl)) (fun _ _ _ h => h) (Or.inr ⟨by rfl, rfl⟩) ?_ ?_
      rotate_left
      · simp only [Act.put, List.setIfInBounds_toArray, List.set_cons_zero, List.set_cons_succ, i64_w, i32_w]
        rfl
      refine pure_ (i := 6) (N := some 15) (v := undef) (a' := ?_) #[true, true, true, true, true, true, true, false, false, false, false, false, false, false, false, false, false, false, false, false, false, false] rfl rfl (any_of HT_.out (by kernel_rfl)) (fun _ _ _ h => h) (Or.inr ⟨by rfl, rfl⟩) ?_ ?_
      rotate_left
      · simp only [Act.put, List.setIfInBounds_toArray, List.set_cons_zero, List.set_cons_succ, i64_w, i32_w]
        rfl
      refine pure_ (i := 7) (N := some 16) (v := undef) (a' := ?_) #[true, true, true, true, true, true, true, true, false, false, false, false, false, false, false, false, false, false, false, false, false, false] rfl rfl (any_of HT_.out (by kernel_rfl)) (fun _ _ _ h => h) (Or.inr ⟨by rfl, rfl⟩) ?_ ?_
      rotate_left
      · simp only [Act.put, List.setIfInBounds_toArray, List.set_cons_zero, List.set_cons_succ, i64_w, i32_w]
        rfl
      refine pure_ (i := 8) (N := some 17) (v := undef) (a' := ?_) #[true, true, true, true, true, true, true, true, true, false, false, false, false, false, false, false, false, false, false, false, false, false] rfl rfl (any_of HT_.out (by kernel_rfl)) (fun _ _ _ h => h) (Or.inr ⟨by rfl, rfl⟩) ?_ ?_
      rotate_left
      · simp only [Act.put, List.setIfInBounds_toArray, List.set_cons_zero, List.set_cons_succ, i64_w, i32_w]
        rfl
      refine pure_ (i := 9) (N := some 18) (v := undef) (a' := ?_) #[true, true, true, true, true, true, true, true, true, true, false, false, false, false, false, false, false, false, false, false, false, false] rfl rfl (any_of HT_.out (by kernel_rfl)) (fun _ _ _ h => h) (Or.inr ⟨by rfl, rfl⟩) ?_ ?_
      rotate_left
      · simp only [Act.put, List.setIfInBounds_toArray, List.set_cons_zero, List.set_cons_succ, i64_w, i32_w]
        rfl
      refine pure_ (i := 10) (N := some 19) (v := ?_) (a' := ?_) #[true, true, true, true, true, true, true, true, true, true, true, false, false, false, false, false, false, false, false, false, false, false] rfl rfl (any_of HT_.out (by kernel_rfl)) (fun _ _ _ h => h) (Or.inl ⟨by rfl, ?_⟩) ?_ ?_
      rotate_left
      · intro w'
        go_simp
        with_reducible rfl
      rotate_left
      · simp only [Act.put, List.setIfInBounds_toArray, List.set_cons_zero, List.set_cons_succ, i64_w, i32_w]
        rfl
      refine pure_ (i := 11) (N := some 20) (v := ?_) (a' := ?_) #[true, true, true, true, true, true, true, true, true, true, true, true, false, false, false, false, false, false, false, false, false, false] rfl rfl (any_of HT_.out (by kernel_rfl)) (fun _ _ _ h => h) (Or.inl ⟨by rfl, ?_⟩) ?_ ?_
      rotate_left
      · intro w'
        go_simp
        with_reducible rfl
      rotate_left
      · simp only [Act.put, List.setIfInBounds_toArray, List.set_cons_zero, List.set_cons_succ, i64_w, i32_w]
        rfl
      refine pure_ (i := 12) (N := some 21) (v := undef) (a' := ?_) #[true, true, true, true, true, true, true, true, true, true, true, true, true, false, false, false, false, false, false, false, false, false] rfl rfl (any_of HT_.out (by kernel_rfl)) (fun _ _ _ h => h) (Or.inr ⟨by rfl, rfl⟩) ?_ ?_
      rotate_left
      · simp only [Act.put, List.setIfInBounds_toArray, List.set_cons_zero, List.set_cons_succ, i64_w, i32_w]
        rfl
      refine pure_ (i := 13) (N := some 22) (v := undef) (a' := ?_) #[true, true, true, true, true, true, true, true, true, true, true, true, true, true, false, false, false, false, false, false, false, false] rfl rfl (any_of HT_.out (by kernel_rfl)) (fun _ _ _ h => h) (Or.inr ⟨by rfl, rfl⟩) ?_ ?_
      rotate_left
      · simp only [Act.put, List.setIfInBounds_toArray, List.set_cons_zero, List.set_cons_succ, i64_w, i32_w]
        rfl
      refine pure_ (i := 14) (N := some 23) (v := undef) (a' := ?_) #[true, true, true, true, true, true, true, true, true, true, true, true, true, true, true, false, false, false, false, false, false, false] rfl rfl (any_of HT_.out (by kernel_rfl)) (fun _ _ _ h => h) (Or.inr ⟨by rfl, rfl⟩) ?_ ?_
      rotate_left
      · simp only [Act.put, List.setIfInBounds_toArray, List.set_cons_zero, List.set_cons_succ, i64_w, i32_w]
        rfl
      refine pure_ (i := 15) (N := some 24) (v := undef) (a' := ?_) #[true, true, true, true, true, true, true, true, true, true, true, true, true, true, true, true, false, false, false, false, false, false] rfl rfl (any_of HT_.out (by kernel_rfl)) (fun _ _ _ h => h) (Or.inr ⟨by rfl, rfl⟩) ?_ ?_
      rotate_left
      · simp only [Act.put, List.setIfInBounds_toArray, List.set_cons_zero, List.set_cons_succ, i64_w, i32_w]
        rfl
      refine pure_ (i := 16) (N := some 25) (v := ?_) (a' := ?_) #[true, true, true, true, true, true, true, true, true, true, true, true, true, true, true, true, true, false, false, false, false, false] rfl rfl (any_of HT_.out (by kernel_rfl)) (fun _ _ _ h => h) (Or.inl ⟨by rfl, ?_⟩) ?_ ?_
      rotate_left
      · intro w'
        go_simp
        with_reducible rfl
      rotate_left
      · simp only [Act.put, List.setIfInBounds_toArray, List.set_cons_zero, List.set_cons_succ, i64_w, i32_w]
        rfl
      refine pure_ (i := 17) (N := some 26) (v := ?_) (a' := ?_) #[true, true, true, true, true, true, true, true, true, true, true, true, true, true, true, true, true, true, false, false, false, false] rfl rfl (any_of HT_.out (by kernel_rfl)) (fun _ _ _ h => h) (Or.inl ⟨by rfl, ?_⟩) ?_ ?_
      rotate_left
      · intro w'
        go_simp
        with_reducible rfl
      rotate_left
      · simp only [Act.put, List.setIfInBounds_toArray, List.set_cons_zero, List.set_cons_succ, i64_w, i32_w]
        rfl
      refine pure_ (i := 18) (N := some 27) (v := undef) (a' := ?_) #[true, true, true, true, true, true, true, true, true, true, true, true, true, true, true, true, true, true, true, false, false, false] rfl rfl (any_of HT_.out (by kernel_rfl)) (fun _ _ _ h => h) (Or.inr ⟨by rfl, rfl⟩) ?_ ?_
      rotate_left
      · simp only [Act.put, List.setIfInBounds_toArray, List.set_cons_zero, List.set_cons_succ, i64_w, i32_w]
        rfl
      refine pure_ (i := 19) (N := some 28) (v := undef) (a' := ?_) #[true, true, true, true, true, true, true, true, true, true, true, true, true, true, true, true, true, true, true, true, false, false] rfl rfl (any_of HT_.out (by kernel_rfl)) (fun _ _ _ h => h) (Or.inr ⟨by rfl, rfl⟩) ?_ ?_
      rotate_left
      · simp only [Act.put, List.setIfInBounds_toArray, List.set_cons_zero, List.set_cons_succ, i64_w, i32_w]
        rfl
      refine pure_ (i := 20) (N := some 29) (v := ?_) (a' := ?_) #[true, true, true, true, true, true, true, true, true, true, true, true, true, true, true, true, true, true, true, true, true, false] rfl rfl (any_of HT_.out (by kernel_rfl)) (fun _ _ _ h => h) (Or.inl ⟨by rfl, ?_⟩) ?_ ?_
      rotate_left
      · intro w'
        go_simp
        with_reducible rfl
      rotate_left
      · simp only [Act.put, List.setIfInBounds_toArray, List.set_cons_zero, List.set_cons_succ, i64_w, i32_w]
        rfl
      refine pure_ (i := 21) (N := some 8) (v := ?_) (a' := ?_) #[true, true, true, true, true, true, true, true, true, true, true, true, true, true, true, true, true, true, true, true, true, true] rfl rfl (any_of HT_.out (by kernel_rfl)) (fun _ _ _ h => h) (Or.inl ⟨by rfl, ?_⟩) ?_ ?_
      rotate_left
      · intro w'
        go_simp
        with_reducible rfl
      rotate_left
      · simp only [Act.put, List.setIfInBounds_toArray, List.set_cons_zero, List.set_cons_succ, i64_w, i32_w]
        rfl
      refine done_ (done_of HT_.out (by kernel_rfl)) ?_
      try go_wp2
      go_meet
      case rel => exact ⟨by rw [HBad.out]; rfl, K, Z, HV, HB⟩
    | true =>
      obtain ⟨on1, hon1⟩ : ∃ n, ones on = n := ⟨_, rfl⟩
      rw [hrj, hon1] at HBad
      cases h1 : (on1 == x.f3.f4) with
      | false =>
        as_aux_lemma =>
        have h1b : (on1 != x.f3.f4) = true := by rw [bne, h1]; rfl
        rw [h1] at HBad
        try go_wp2
        replace K := Lib.hid (blk_drew K.out)
        replace Z := Lib.hid (blk_drew Z.out)
        replace HV := Lib.hid (show JV WD.drew x A c from HV.out.keep (below_drew (Below.refl _ _)))
        replace HB := Lib.hid (below_drew HB.out)
        refine start_ (n := 22) (S := fun w' => w'.cell? ⟨b3, 7, none⟩ = some (.int .i64 x.f3.f4) ∧ w'.cell? ⟨b3, 12, none⟩ = some (.int .i64 x.f5) ∧ JBox w' b3 x A c) (ds := []) #[false, false, false, false, false, false, false, false, false, false, false, false, false, false, false, false, false, false, false, false, false, false] (by kernel_rfl) rfl rfl ⟨JBox.cell K.out 7 rfl, JBox.cell K.out 12 rfl, K.out⟩ (fun hHeld => ?_)
        refine with_tabW job_Begin.tab1 job_Begin.bits1 (fun HT_ HW_ => ?_)
        generalize WD.drew = W2 at K Z HV HB hHeld ⊢
        refine take_ (i := 0) (N := some 9) (v := ?_) (a' := ?_) #[true, false, false, false, false, false, false, false, false, false, false, false, false, false, false, false, false, false, false, false, false, false] rfl rfl (take_ofW HT_.out HW_.out (by kernel_rfl)) (fun _ _ _ h => h) (Or.inl ⟨by rfl, ?_⟩) hHeld ?_ ?_
        rotate_left
        · rintro w' ⟨s0, s1, s2⟩
          refine Eq.trans (exec_load (by rfl) (by rfl) (JBox.load s2)) ?_
          with_reducible rfl
        rotate_left
        · simp only [Act.put, List.setIfInBounds_toArray, List.set_cons_zero, List.set_cons_succ, i64_w, i32_w]
          rfl
        refine one_ (i := 1) (N := some 10) #[true, true, false, false, false, false, false, false, false, false, false, false, false, false, false, false, false, false, false, false, false, false] rfl rfl (one_of HT_.out (by kernel_rfl)) (by decide) (fun K9 hK => ?_)
        refine goes_ Try.func48 (by kernel_rfl) rfl #[jobV x A c] (by rfl) rfl rfl (by (try simp only [List.map_toArray, List.map_cons, List.map_nil]); first | done | rfl) ?_
        refine (right_calls x A c _ HX.out.1 HV.out.2 HV.out.1).mono ?_
        rintro e W3 ⟨he, hb⟩
        rw [hrj] at he
        subst he
        refine ⟨_, rfl, ?_⟩
        replace K := Lib.hid (JBox.keep K.out hb)
        replace Z := Lib.hid (JBox.keep Z.out hb)
        replace HV := Lib.hid (HV.out.keep hb)
        replace HB := Lib.hid (below_then HB.out HB.out.size hb)
        clear hb
        refine hK.out _ _ ⟨JBox.cell K.out 7 rfl, JBox.cell K.out 12 rfl, K.out⟩ (fun hHeld => ?_)
        clear hK K9
        refine norm_ (a' := ?_) ?_ ?_
        rotate_left
        · show Act.put _ (some 10) _ = _
          simp only [Act.put, List.setIfInBounds_toArray, List.set_cons_zero, List.set_cons_succ, i64_w, i32_w]
          rfl
        refine pure_ (i := 2) (N := some 11) (v := ?_) (a' := ?_) #[true, true, true, false, false, false, false, false, false, false, false, false, false, false, false, false, false, false, false, false, false, false] rfl rfl (any_of HT_.out (by kernel_rfl)) (fun _ _ _ h => h) (Or.inl ⟨by rfl, ?_⟩) ?_ ?_
        rotate_left
        · intro w'
          go_simp
          with_reducible rfl
        rotate_left
        · simp only [Act.put, List.setIfInBounds_toArray, List.set_cons_zero, List.set_cons_succ, i64_w, i32_w]
          rfl
        refine pure_ (i := 3) (N := some 12) (v := ?_) (a' := ?_) #[true, true, true, true, false, false, false, false, false, false, false, false, false, false, false, false, false, false, false, false, false, false] rfl rfl (any_of HT_.out (by kernel_rfl)) (fun _ _ _ h => h) (Or.inl ⟨by rfl, ?_⟩) ?_ ?_
        rotate_left
        · intro w'
          go_simp
          with_reducible rfl
        rotate_left
        · simp only [Act.put, List.setIfInBounds_toArray, List.set_cons_zero, List.set_cons_succ, i64_w, i32_w]
          rfl
        refine pure_ (i := 4) (N := some 13) (v := ?_) (a' := ?_) #[true, true, true, true, true, false, false, false, false, false, false, false, false, false, false, false, false, false, false, false, false, false] rfl rfl (any_of HT_.out (by kernel_rfl)) (fun _ _ _ h => h) (Or.inl ⟨by rfl, ?_⟩) ?_ ?_
        rotate_left
        · intro w'
          go_simp
          with_reducible rfl
        rotate_left
        · simp only [Act.put, List.setIfInBounds_toArray, List.set_cons_zero, List.set_cons_succ, i64_w, i32_w]
          rfl
        refine pure_ (i := 6) (N := some 15) (v := ?_) (a' := ?_) #[true, true, true, true, true, false, true, false, false, false, false, false, false, false, false, false, false, false, false, false, false, false] rfl rfl (any_of HT_.out (by kernel_rfl)) (fun _ _ _ h => h) (Or.inl ⟨by rfl, ?_⟩) ?_ ?_
        rotate_left
        · intro w'
          go_simp
          with_reducible rfl
        rotate_left
        · simp only [Act.put, List.setIfInBounds_toArray, List.set_cons_zero, List.set_cons_succ, i64_w, i32_w]
          rfl
        refine pure_ (i := 7) (N := some 16) (v := ?_) (a' := ?_) #[true, true, true, true, true, false, true, true, false, false, false, false, false, false, false, false, false, false, false, false, false, false] rfl rfl (any_of HT_.out (by kernel_rfl)) (fun _ _ _ h => h) (Or.inl ⟨by rfl, ?_⟩) ?_ ?_
        rotate_left
        · intro w'
          go_simp
          with_reducible rfl
        rotate_left
        · simp only [Act.put, List.setIfInBounds_toArray, List.set_cons_zero, List.set_cons_succ, i64_w, i32_w]
          rfl
        refine take_ (i := 8) (N := some 17) (v := ?_) (a' := ?_) #[true, true, true, true, true, false, true, true, true, false, false, false, false, false, false, false, false, false, false, false, false, false] rfl rfl (take_ofW HT_.out HW_.out (by kernel_rfl)) (fun _ _ _ h => h) (Or.inl ⟨by rfl, ?_⟩) hHeld ?_ ?_
        rotate_left
        · rintro w' ⟨s0, s1, s2⟩
          clear s2
          go_simp
          with_reducible rfl
        rotate_left
        · simp only [Act.put, List.setIfInBounds_toArray, List.set_cons_zero, List.set_cons_succ, i64_w, i32_w]
          rfl
        refine one_ (i := 5) (N := some 14) #[true, true, true, true, true, true, true, true, true, false, false, false, false, false, false, false, false, false, false, false, false, false] rfl rfl (one_of HT_.out (by kernel_rfl)) (by decide) (fun K9 hK => ?_)
        refine goes_ Try.func53 (by kernel_rfl) rfl #[.int .u32 on] (by rfl) rfl rfl (by (try simp only [List.map_toArray, List.map_cons, List.map_nil]); first | done | rfl) ?_
        refine (count_calls on HO.out _).mono ?_
        rintro e W4 ⟨he, hb⟩
        rw [hon1] at he
        subst he
        refine ⟨_, rfl, ?_⟩
        replace K := Lib.hid (JBox.keep K.out hb)
        replace Z := Lib.hid (JBox.keep Z.out hb)
        replace HV := Lib.hid (HV.out.keep hb)
        replace HB := Lib.hid (below_then HB.out HB.out.size hb)
        clear hb
        refine hK.out _ _ ⟨JBox.cell K.out 7 rfl, JBox.cell K.out 12 rfl, K.out⟩ (fun hHeld => ?_)
        clear hK K9
        refine norm_ (a' := ?_) ?_ ?_
        rotate_left
        · show Act.put _ (some 14) _ = _
          simp only [Act.put, List.setIfInBounds_toArray, List.set_cons_zero, List.set_cons_succ, i64_w, i32_w]
          rfl
        refine pure_ (i := 9) (N := some 18) (v := ?_) (a' := ?_) #[true, true, true, true, true, true, true, true, true, true, false, false, false, false, false, false, false, false, false, false, false, false] rfl rfl (any_of HT_.out (by kernel_rfl)) (fun _ _ _ h => h) (Or.inl ⟨by rfl, ?_⟩) ?_ ?_
        rotate_left
        · intro w'
          go_simp
          with_reducible rfl
        rotate_left
        · simp only [Act.put, List.setIfInBounds_toArray, List.set_cons_zero, List.set_cons_succ, i64_w, i32_w]
          rfl
        refine pure_ (i := 10) (N := some 19) (v := ?_) (a' := ?_) #[true, true, true, true, true, true, true, true, true, true, true, false, false, false, false, false, false, false, false, false, false, false] rfl rfl (any_of HT_.out (by kernel_rfl)) (fun _ _ _ h => h) (Or.inl ⟨by rfl, ?_⟩) ?_ ?_
        rotate_left
        · intro w'
          go_simp
          with_reducible rfl
        rotate_left
        · simp only [Act.put, List.setIfInBounds_toArray, List.set_cons_zero, List.set_cons_succ, i64_w, i32_w]
          rfl
        refine pure_ (i := 11) (N := some 20) (v := ?_) (a' := ?_) #[true, true, true, true, true, true, true, true, true, true, true, true, false, false, false, false, false, false, false, false, false, false] rfl rfl (any_of HT_.out (by kernel_rfl)) (fun _ _ _ h => h) (Or.inl ⟨by rfl, ?_⟩) ?_ ?_
        rotate_left
        · intro w'
          go_simp
          with_reducible rfl
        rotate_left
        · simp only [Act.put, List.setIfInBounds_toArray, List.set_cons_zero, List.set_cons_succ, i64_w, i32_w]
          rfl
        refine pure_ (i := 12) (N := some 21) (v := undef) (a' := ?_) #[true, true, true, true, true, true, true, true, true, true, true, true, true, false, false, false, false, false, false, false, false, false] rfl rfl (any_of HT_.out (by kernel_rfl)) (fun _ _ _ h => h) (Or.inr ⟨by rfl, rfl⟩) ?_ ?_
        rotate_left
        · simp only [Act.put, List.setIfInBounds_toArray, List.set_cons_zero, List.set_cons_succ, i64_w, i32_w]
          rfl
        refine pure_ (i := 13) (N := some 22) (v := undef) (a' := ?_) #[true, true, true, true, true, true, true, true, true, true, true, true, true, true, false, false, false, false, false, false, false, false] rfl rfl (any_of HT_.out (by kernel_rfl)) (fun _ _ _ h => h) (Or.inr ⟨by rfl, rfl⟩) ?_ ?_
        rotate_left
        · simp only [Act.put, List.setIfInBounds_toArray, List.set_cons_zero, List.set_cons_succ, i64_w, i32_w]
          rfl
        refine pure_ (i := 14) (N := some 23) (v := undef) (a' := ?_) #[true, true, true, true, true, true, true, true, true, true, true, true, true, true, true, false, false, false, false, false, false, false] rfl rfl (any_of HT_.out (by kernel_rfl)) (fun _ _ _ h => h) (Or.inr ⟨by rfl, rfl⟩) ?_ ?_
        rotate_left
        · simp only [Act.put, List.setIfInBounds_toArray, List.set_cons_zero, List.set_cons_succ, i64_w, i32_w]
          rfl
        refine pure_ (i := 15) (N := some 24) (v := undef) (a' := ?_) #[true, true, true, true, true, true, true, true, true, true, true, true, true, true, true, true, false, false, false, false, false, false] rfl rfl (any_of HT_.out (by kernel_rfl)) (fun _ _ _ h => h) (Or.inr ⟨by rfl, rfl⟩) ?_ ?_
        rotate_left
        · simp only [Act.put, List.setIfInBounds_toArray, List.set_cons_zero, List.set_cons_succ, i64_w, i32_w]
          rfl
        refine pure_ (i := 16) (N := some 25) (v := ?_) (a' := ?_) #[true, true, true, true, true, true, true, true, true, true, true, true, true, true, true, true, true, false, false, false, false, false] rfl rfl (any_of HT_.out (by kernel_rfl)) (fun _ _ _ h => h) (Or.inl ⟨by rfl, ?_⟩) ?_ ?_
        rotate_left
        · intro w'
          go_simp
          with_reducible rfl
        rotate_left
        · simp only [Act.put, List.setIfInBounds_toArray, List.set_cons_zero, List.set_cons_succ, i64_w, i32_w]
          rfl
        refine pure_ (i := 17) (N := some 26) (v := ?_) (a' := ?_) #[true, true, true, true, true, true, true, true, true, true, true, true, true, true, true, true, true, true, false, false, false, false] rfl rfl (any_of HT_.out (by kernel_rfl)) (fun _ _ _ h => h) (Or.inl ⟨by rfl, ?_⟩) ?_ ?_
        rotate_left
        · intro w'
          go_simp
          with_reducible rfl
        rotate_left
        · simp only [Act.put, List.setIfInBounds_toArray, List.set_cons_zero, List.set_cons_succ, i64_w, i32_w]
          rfl
        refine pure_ (i := 18) (N := some 27) (v := undef) (a' := ?_) #[true, true, true, true, true, true, true, true, true, true, true, true, true, true, true, true, true, true, true, false, false, false] rfl rfl (any_of HT_.out (by kernel_rfl)) (fun _ _ _ h => h) (Or.inr ⟨by rfl, rfl⟩) ?_ ?_
        rotate_left
        · simp only [Act.put, List.setIfInBounds_toArray, List.set_cons_zero, List.set_cons_succ, i64_w, i32_w]
          rfl
        refine pure_ (i := 19) (N := some 28) (v := undef) (a' := ?_) #[true, true, true, true, true, true, true, true, true, true, true, true, true, true, true, true, true, true, true, true, false, false] rfl rfl (any_of HT_.out (by kernel_rfl)) (fun _ _ _ h => h) (Or.inr ⟨by rfl, rfl⟩) ?_ ?_
        rotate_left
        · simp only [Act.put, List.setIfInBounds_toArray, List.set_cons_zero, List.set_cons_succ, i64_w, i32_w]
          rfl
        refine pure_ (i := 20) (N := some 29) (v := ?_) (a' := ?_) #[true, true, true, true, true, true, true, true, true, true, true, true, true, true, true, true, true, true, true, true, true, false] rfl rfl (any_of HT_.out (by kernel_rfl)) (fun _ _ _ h => h) (Or.inl ⟨by rfl, ?_⟩) ?_ ?_
        rotate_left
        · intro w'
          go_simp
          with_reducible rfl
        rotate_left
        · simp only [Act.put, List.setIfInBounds_toArray, List.set_cons_zero, List.set_cons_succ, i64_w, i32_w]
          rfl
        refine pure_ (i := 21) (N := some 8) (v := ?_) (a' := ?_) #[true, true, true, true, true, true, true, true, true, true, true, true, true, true, true, true, true, true, true, true, true, true] rfl rfl (any_of HT_.out (by kernel_rfl)) (fun _ _ _ h => h) (Or.inl ⟨by rfl, ?_⟩) ?_ ?_
        rotate_left
        · intro w'
          go_simp
          with_reducible rfl
        rotate_left
        · simp only [Act.put, List.setIfInBounds_toArray, List.set_cons_zero, List.set_cons_succ, i64_w, i32_w]
          rfl
        refine done_ (done_of HT_.out (by kernel_rfl)) ?_
        try go_wp2
        go_meet
        case rel => exact ⟨by rw [HBad.out]; rfl, K, Z, HV, HB⟩
      | true =>
        have h1b : (on1 != x.f3.f4) = false := by rw [bne, h1]; rfl
        rw [h1] at HBad
        cases h2 : decide (now < x.f5) with
        | true =>
          as_aux_lemma =>
          rw [h2] at HBad
          try go_wp2
          replace K := Lib.hid (blk_drew K.out)
          replace Z := Lib.hid (blk_drew Z.out)
          replace HV := Lib.hid (show JV WD.drew x A c from HV.out.keep (below_drew (Below.refl _ _)))
          replace HB := Lib.hid (below_drew HB.out)
          refine start_ (n := 22) (S := fun w' => w'.cell? ⟨b3, 7, none⟩ = some (.int .i64 x.f3.f4) ∧ w'.cell? ⟨b3, 12, none⟩ = some (.int .i64 x.f5) ∧ JBox w' b3 x A c) (ds := []) #[false, false, false, false, false, false, false, false, false, false, false, false, false, false, false, false, false, false, false, false, false, false] (by kernel_rfl) rfl rfl ⟨JBox.cell K.out 7 rfl, JBox.cell K.out 12 rfl, K.out⟩ (fun hHeld => ?_)
          refine with_tabW job_Begin.tab1 job_Begin.bits1 (fun HT_ HW_ => ?_)
          generalize WD.drew = W2 at K Z HV HB hHeld ⊢
          refine take_ (i := 0) (N := some 9) (v := ?_) (a' := ?_) #[true, false, false, false, false, false, false, false, false, false, false, false, false, false, false, false, false, false, false, false, false, false] rfl rfl (take_ofW HT_.out HW_.out (by kernel_rfl)) (fun _ _ _ h => h) (Or.inl ⟨by rfl, ?_⟩) hHeld ?_ ?_
          rotate_left
          · rintro w' ⟨s0, s1, s2⟩
            refine Eq.trans (exec_load (by rfl) (by rfl) (JBox.load s2)) ?_
            with_reducible rfl
          rotate_left
          · simp only [Act.put, List.setIfInBounds_toArray, List.set_cons_zero, List.set_cons_succ, i64_w, i32_w]
            rfl
          refine one_ (i := 1) (N := some 10) #[true, true, false, false, false, false, false, false, false, false, false, false, false, false, false, false, false, false, false, false, false, false] rfl rfl (one_of HT_.out (by kernel_rfl)) (by decide) (fun K9 hK => ?_)
          refine goes_ Try.func48 (by kernel_rfl) rfl #[jobV x A c] (by rfl) rfl rfl (by (try simp only [List.map_toArray, List.map_cons, List.map_nil]); first | done | rfl) ?_
          refine (right_calls x A c _ HX.out.1 HV.out.2 HV.out.1).mono ?_
          rintro e W3 ⟨he, hb⟩
          rw [hrj] at he
          subst he
          refine ⟨_, rfl, ?_⟩
          replace K := Lib.hid (JBox.keep K.out hb)
          replace Z := Lib.hid (JBox.keep Z.out hb)
          replace HV := Lib.hid (HV.out.keep hb)
          replace HB := Lib.hid (below_then HB.out HB.out.size hb)
          clear hb
          refine hK.out _ _ ⟨JBox.cell K.out 7 rfl, JBox.cell K.out 12 rfl, K.out⟩ (fun hHeld => ?_)
          clear hK K9
          refine norm_ (a' := ?_) ?_ ?_
          rotate_left
          · show Act.put _ (some 10) _ = _
            simp only [Act.put, List.setIfInBounds_toArray, List.set_cons_zero, List.set_cons_succ, i64_w, i32_w]
            rfl
          refine pure_ (i := 2) (N := some 11) (v := ?_) (a' := ?_) #[true, true, true, false, false, false, false, false, false, false, false, false, false, false, false, false, false, false, false, false, false, false] rfl rfl (any_of HT_.out (by kernel_rfl)) (fun _ _ _ h => h) (Or.inl ⟨by rfl, ?_⟩) ?_ ?_
          rotate_left
          · intro w'
            go_simp
            with_reducible rfl
          rotate_left
          · simp only [Act.put, List.setIfInBounds_toArray, List.set_cons_zero, List.set_cons_succ, i64_w, i32_w]
            rfl
          refine pure_ (i := 3) (N := some 12) (v := ?_) (a' := ?_) #[true, true, true, true, false, false, false, false, false, false, false, false, false, false, false, false, false, false, false, false, false, false] rfl rfl (any_of HT_.out (by kernel_rfl)) (fun _ _ _ h => h) (Or.inl ⟨by rfl, ?_⟩) ?_ ?_
          rotate_left
          · intro w'
            go_simp
            with_reducible rfl
          rotate_left
          · simp only [Act.put, List.setIfInBounds_toArray, List.set_cons_zero, List.set_cons_succ, i64_w, i32_w]
            rfl
          refine pure_ (i := 4) (N := some 13) (v := ?_) (a' := ?_) #[true, true, true, true, true, false, false, false, false, false, false, false, false, false, false, false, false, false, false, false, false, false] rfl rfl (any_of HT_.out (by kernel_rfl)) (fun _ _ _ h => h) (Or.inl ⟨by rfl, ?_⟩) ?_ ?_
          rotate_left
          · intro w'
            go_simp
            with_reducible rfl
          rotate_left
          · simp only [Act.put, List.setIfInBounds_toArray, List.set_cons_zero, List.set_cons_succ, i64_w, i32_w]
            rfl
          refine pure_ (i := 6) (N := some 15) (v := ?_) (a' := ?_) #[true, true, true, true, true, false, true, false, false, false, false, false, false, false, false, false, false, false, false, false, false, false] rfl rfl (any_of HT_.out (by kernel_rfl)) (fun _ _ _ h => h) (Or.inl ⟨by rfl, ?_⟩) ?_ ?_
          rotate_left
          · intro w'
            go_simp
            with_reducible rfl
          rotate_left
          · simp only [Act.put, List.setIfInBounds_toArray, List.set_cons_zero, List.set_cons_succ, i64_w, i32_w]
            rfl
          refine pure_ (i := 7) (N := some 16) (v := ?_) (a' := ?_) #[true, true, true, true, true, false, true, true, false, false, false, false, false, false, false, false, false, false, false, false, false, false] rfl rfl (any_of HT_.out (by kernel_rfl)) (fun _ _ _ h => h) (Or.inl ⟨by rfl, ?_⟩) ?_ ?_
          rotate_left
          · intro w'
            go_simp
            with_reducible rfl
          rotate_left
          · simp only [Act.put, List.setIfInBounds_toArray, List.set_cons_zero, List.set_cons_succ, i64_w, i32_w]
            rfl
          refine take_ (i := 8) (N := some 17) (v := ?_) (a' := ?_) #[true, true, true, true, true, false, true, true, true, false, false, false, false, false, false, false, false, false, false, false, false, false] rfl rfl (take_ofW HT_.out HW_.out (by kernel_rfl)) (fun _ _ _ h => h) (Or.inl ⟨by rfl, ?_⟩) hHeld ?_ ?_
          rotate_left
          · rintro w' ⟨s0, s1, s2⟩
            clear s2
            go_simp
            with_reducible rfl
          rotate_left
          · simp only [Act.put, List.setIfInBounds_toArray, List.set_cons_zero, List.set_cons_succ, i64_w, i32_w]
            rfl
          refine one_ (i := 5) (N := some 14) #[true, true, true, true, true, true, true, true, true, false, false, false, false, false, false, false, false, false, false, false, false, false] rfl rfl (one_of HT_.out (by kernel_rfl)) (by decide) (fun K9 hK => ?_)
          refine goes_ Try.func53 (by kernel_rfl) rfl #[.int .u32 on] (by rfl) rfl rfl (by (try simp only [List.map_toArray, List.map_cons, List.map_nil]); first | done | rfl) ?_
          refine (count_calls on HO.out _).mono ?_
          rintro e W4 ⟨he, hb⟩
          rw [hon1] at he
          subst he
          refine ⟨_, rfl, ?_⟩
          replace K := Lib.hid (JBox.keep K.out hb)
          replace Z := Lib.hid (JBox.keep Z.out hb)
          replace HV := Lib.hid (HV.out.keep hb)
          replace HB := Lib.hid (below_then HB.out HB.out.size hb)
          clear hb
          refine hK.out _ _ ⟨JBox.cell K.out 7 rfl, JBox.cell K.out 12 rfl, K.out⟩ (fun hHeld => ?_)
          clear hK K9
          refine norm_ (a' := ?_) ?_ ?_
          rotate_left
          · show Act.put _ (some 14) _ = _
            simp only [Act.put, List.setIfInBounds_toArray, List.set_cons_zero, List.set_cons_succ, i64_w, i32_w]
            rfl
          refine pure_ (i := 9) (N := some 18) (v := ?_) (a' := ?_) #[true, true, true, true, true, true, true, true, true, true, false, false, false, false, false, false, false, false, false, false, false, false] rfl rfl (any_of HT_.out (by kernel_rfl)) (fun _ _ _ h => h) (Or.inl ⟨by rfl, ?_⟩) ?_ ?_
          rotate_left
          · intro w'
            go_simp
            with_reducible rfl
          rotate_left
          · simp only [Act.put, List.setIfInBounds_toArray, List.set_cons_zero, List.set_cons_succ, i64_w, i32_w]
            rfl
          refine pure_ (i := 10) (N := some 19) (v := ?_) (a' := ?_) #[true, true, true, true, true, true, true, true, true, true, true, false, false, false, false, false, false, false, false, false, false, false] rfl rfl (any_of HT_.out (by kernel_rfl)) (fun _ _ _ h => h) (Or.inl ⟨by rfl, ?_⟩) ?_ ?_
          rotate_left
          · intro w'
            go_simp
            with_reducible rfl
          rotate_left
          · simp only [Act.put, List.setIfInBounds_toArray, List.set_cons_zero, List.set_cons_succ, i64_w, i32_w]
            rfl
          refine pure_ (i := 11) (N := some 20) (v := ?_) (a' := ?_) #[true, true, true, true, true, true, true, true, true, true, true, true, false, false, false, false, false, false, false, false, false, false] rfl rfl (any_of HT_.out (by kernel_rfl)) (fun _ _ _ h => h) (Or.inl ⟨by rfl, ?_⟩) ?_ ?_
          rotate_left
          · intro w'
            go_simp
            with_reducible rfl
          rotate_left
          · simp only [Act.put, List.setIfInBounds_toArray, List.set_cons_zero, List.set_cons_succ, i64_w, i32_w]
            rfl
          refine pure_ (i := 12) (N := some 21) (v := ?_) (a' := ?_) #[true, true, true, true, true, true, true, true, true, true, true, true, true, false, false, false, false, false, false, false, false, false] rfl rfl (any_of HT_.out (by kernel_rfl)) (fun _ _ _ h => h) (Or.inl ⟨by rfl, ?_⟩) ?_ ?_
          rotate_left
          · intro w'
            go_simp
            with_reducible rfl
          rotate_left
          · simp only [Act.put, List.setIfInBounds_toArray, List.set_cons_zero, List.set_cons_succ, i64_w, i32_w]
            rfl
          refine pure_ (i := 13) (N := some 22) (v := ?_) (a' := ?_) #[true, true, true, true, true, true, true, true, true, true, true, true, true, true, false, false, false, false, false, false, false, false] rfl rfl (any_of HT_.out (by kernel_rfl)) (fun _ _ _ h => h) (Or.inl ⟨by rfl, ?_⟩) ?_ ?_
          rotate_left
          · intro w'
            go_simp
            with_reducible rfl
          rotate_left
          · simp only [Act.put, List.setIfInBounds_toArray, List.set_cons_zero, List.set_cons_succ, i64_w, i32_w]
            rfl
          refine take_ (i := 14) (N := some 23) (v := ?_) (a' := ?_) #[true, true, true, true, true, true, true, true, true, true, true, true, true, true, true, false, false, false, false, false, false, false] rfl rfl (take_ofW HT_.out HW_.out (by kernel_rfl)) (fun _ _ _ h => h) (Or.inl ⟨by rfl, ?_⟩) hHeld ?_ ?_
          rotate_left
          · rintro w' ⟨s0, s1, s2⟩
            clear s2
            go_simp
            with_reducible rfl
          rotate_left
          · simp only [Act.put, List.setIfInBounds_toArray, List.set_cons_zero, List.set_cons_succ, i64_w, i32_w]
            rfl
          refine pure_ (i := 15) (N := some 24) (v := ?_) (a' := ?_) #[true, true, true, true, true, true, true, true, true, true, true, true, true, true, true, true, false, false, false, false, false, false] rfl rfl (any_of HT_.out (by kernel_rfl)) (fun _ _ _ h => h) (Or.inl ⟨by rfl, ?_⟩) ?_ ?_
          rotate_left
          · intro w'
            go_simp
            with_reducible rfl
          rotate_left
          · simp only [Act.put, List.setIfInBounds_toArray, List.set_cons_zero, List.set_cons_succ, i64_w, i32_w]
            rfl
          refine pure_ (i := 16) (N := some 25) (v := ?_) (a' := ?_) #[true, true, true, true, true, true, true, true, true, true, true, true, true, true, true, true, true, false, false, false, false, false] rfl rfl (any_of HT_.out (by kernel_rfl)) (fun _ _ _ h => h) (Or.inl ⟨by rfl, ?_⟩) ?_ ?_
          rotate_left
          · intro w'
            go_simp
            with_reducible rfl
          rotate_left
          · simp only [Act.put, List.setIfInBounds_toArray, List.set_cons_zero, List.set_cons_succ, i64_w, i32_w]
            rfl
          refine pure_ (i := 17) (N := some 26) (v := ?_) (a' := ?_) #[true, true, true, true, true, true, true, true, true, true, true, true, true, true, true, true, true, true, false, false, false, false] rfl rfl (any_of HT_.out (by kernel_rfl)) (fun _ _ _ h => h) (Or.inl ⟨by rfl, ?_⟩) ?_ ?_
          rotate_left
          · intro w'
            go_simp
            with_reducible rfl
          rotate_left
          · simp only [Act.put, List.setIfInBounds_toArray, List.set_cons_zero, List.set_cons_succ, i64_w, i32_w]
            rfl
          refine pure_ (i := 18) (N := some 27) (v := undef) (a' := ?_) #[true, true, true, true, true, true, true, true, true, true, true, true, true, true, true, true, true, true, true, false, false, false] rfl rfl (any_of HT_.out (by kernel_rfl)) (fun _ _ _ h => h) (Or.inr ⟨by rfl, rfl⟩) ?_ ?_
          rotate_left
          · simp only [Act.put, List.setIfInBounds_toArray, List.set_cons_zero, List.set_cons_succ, i64_w, i32_w]
            rfl
          refine pure_ (i := 19) (N := some 28) (v := undef) (a' := ?_) #[true, true, true, true, true, true, true, true, true, true, true, true, true, true, true, true, true, true, true, true, false, false] rfl rfl (any_of HT_.out (by kernel_rfl)) (fun _ _ _ h => h) (Or.inr ⟨by rfl, rfl⟩) ?_ ?_
          rotate_left
          · simp only [Act.put, List.setIfInBounds_toArray, List.set_cons_zero, List.set_cons_succ, i64_w, i32_w]
            rfl
          refine pure_ (i := 20) (N := some 29) (v := ?_) (a' := ?_) #[true, true, true, true, true, true, true, true, true, true, true, true, true, true, true, true, true, true, true, true, true, false] rfl rfl (any_of HT_.out (by kernel_rfl)) (fun _ _ _ h => h) (Or.inl ⟨by rfl, ?_⟩) ?_ ?_
          rotate_left
          · intro w'
            go_simp
            with_reducible rfl
          rotate_left
          · simp only [Act.put, List.setIfInBounds_toArray, List.set_cons_zero, List.set_cons_succ, i64_w, i32_w]
            rfl
          refine pure_ (i := 21) (N := some 8) (v := ?_) (a' := ?_) #[true, true, true, true, true, true, true, true, true, true, true, true, true, true, true, true, true, true, true, true, true, true] rfl rfl (any_of HT_.out (by kernel_rfl)) (fun _ _ _ h => h) (Or.inl ⟨by rfl, ?_⟩) ?_ ?_
          rotate_left
          · intro w'
            go_simp
            with_reducible rfl
          rotate_left
          · simp only [Act.put, List.setIfInBounds_toArray, List.set_cons_zero, List.set_cons_succ, i64_w, i32_w]
            rfl
          refine done_ (done_of HT_.out (by kernel_rfl)) ?_
          try go_wp2
          go_meet
          case rel => exact ⟨by rw [HBad.out]; rfl, K, Z, HV, HB⟩
        | false =>
          as_aux_lemma =>
          rw [h2] at HBad
          cases h3 : decide (1099511627776 < now)
          all_goals
            rw [h3] at HBad
            try go_wp2
            replace K := Lib.hid (blk_drew K.out)
            replace Z := Lib.hid (blk_drew Z.out)
            replace HV := Lib.hid (show JV WD.drew x A c from HV.out.keep (below_drew (Below.refl _ _)))
            replace HB := Lib.hid (below_drew HB.out)
            refine start_ (n := 22) (S := fun w' => w'.cell? ⟨b3, 7, none⟩ = some (.int .i64 x.f3.f4) ∧ w'.cell? ⟨b3, 12, none⟩ = some (.int .i64 x.f5) ∧ JBox w' b3 x A c) (ds := []) #[false, false, false, false, false, false, false, false, false, false, false, false, false, false, false, false, false, false, false, false, false, false] (by kernel_rfl) rfl rfl ⟨JBox.cell K.out 7 rfl, JBox.cell K.out 12 rfl, K.out⟩ (fun hHeld => ?_)
            refine with_tabW job_Begin.tab1 job_Begin.bits1 (fun HT_ HW_ => ?_)
            generalize WD.drew = W2 at K Z HV HB hHeld ⊢
            refine take_ (i := 0) (N := some 9) (v := ?_) (a' := ?_) #[true, false, false, false, false, false, false, false, false, false, false, false, false, false, false, false, false, false, false, false, false, false] rfl rfl (take_ofW HT_.out HW_.out (by kernel_rfl)) (fun _ _ _ h => h) (Or.inl ⟨by rfl, ?_⟩) hHeld ?_ ?_
            rotate_left
            · rintro w' ⟨s0, s1, s2⟩
              refine Eq.trans (exec_load (by rfl) (by rfl) (JBox.load s2)) ?_
              with_reducible rfl
            rotate_left
            · simp only [Act.put, List.setIfInBounds_toArray, List.set_cons_zero, List.set_cons_succ, i64_w, i32_w]
              rfl
            refine one_ (i := 1) (N := some 10) #[true, true, false, false, false, false, false, false, false, false, false, false, false, false, false, false, false, false, false, false, false, false] rfl rfl (one_of HT_.out (by kernel_rfl)) (by decide) (fun K9 hK => ?_)
            refine goes_ Try.func48 (by kernel_rfl) rfl #[jobV x A c] (by rfl) rfl rfl (by (try simp only [List.map_toArray, List.map_cons, List.map_nil]); first | done | rfl) ?_
            refine (right_calls x A c _ HX.out.1 HV.out.2 HV.out.1).mono ?_
            rintro e W3 ⟨he, hb⟩
            rw [hrj] at he
            subst he
            refine ⟨_, rfl, ?_⟩
            replace K := Lib.hid (JBox.keep K.out hb)
            replace Z := Lib.hid (JBox.keep Z.out hb)
            replace HV := Lib.hid (HV.out.keep hb)
            replace HB := Lib.hid (below_then HB.out HB.out.size hb)
            clear hb
            refine hK.out _ _ ⟨JBox.cell K.out 7 rfl, JBox.cell K.out 12 rfl, K.out⟩ (fun hHeld => ?_)
            clear hK K9
            refine norm_ (a' := ?_) ?_ ?_
            rotate_left
            · show Act.put _ (some 10) _ = _
              simp only [Act.put, List.setIfInBounds_toArray, List.set_cons_zero, List.set_cons_succ, i64_w, i32_w]
              rfl
            refine pure_ (i := 2) (N := some 11) (v := ?_) (a' := ?_) #[true, true, true, false, false, false, false, false, false, false, false, false, false, false, false, false, false, false, false, false, false, false] rfl rfl (any_of HT_.out (by kernel_rfl)) (fun _ _ _ h => h) (Or.inl ⟨by rfl, ?_⟩) ?_ ?_
            rotate_left
            · intro w'
              go_simp
              with_reducible rfl
            rotate_left
            · simp only [Act.put, List.setIfInBounds_toArray, List.set_cons_zero, List.set_cons_succ, i64_w, i32_w]
              rfl
            refine pure_ (i := 3) (N := some 12) (v := ?_) (a' := ?_) #[true, true, true, true, false, false, false, false, false, false, false, false, false, false, false, false, false, false, false, false, false, false] rfl rfl (any_of HT_.out (by kernel_rfl)) (fun _ _ _ h => h) (Or.inl ⟨by rfl, ?_⟩) ?_ ?_
            rotate_left
            · intro w'
              go_simp
              with_reducible rfl
            rotate_left
            · simp only [Act.put, List.setIfInBounds_toArray, List.set_cons_zero, List.set_cons_succ, i64_w, i32_w]
              rfl
            refine pure_ (i := 4) (N := some 13) (v := ?_) (a' := ?_) #[true, true, true, true, true, false, false, false, false, false, false, false, false, false, false, false, false, false, false, false, false, false] rfl rfl (any_of HT_.out (by kernel_rfl)) (fun _ _ _ h => h) (Or.inl ⟨by rfl, ?_⟩) ?_ ?_
            rotate_left
            · intro w'
              go_simp
              with_reducible rfl
            rotate_left
            · simp only [Act.put, List.setIfInBounds_toArray, List.set_cons_zero, List.set_cons_succ, i64_w, i32_w]
              rfl
            refine pure_ (i := 6) (N := some 15) (v := ?_) (a' := ?_) #[true, true, true, true, true, false, true, false, false, false, false, false, false, false, false, false, false, false, false, false, false, false] rfl rfl (any_of HT_.out (by kernel_rfl)) (fun _ _ _ h => h) (Or.inl ⟨by rfl, ?_⟩) ?_ ?_
            rotate_left
            · intro w'
              go_simp
              with_reducible rfl
            rotate_left
            · simp only [Act.put, List.setIfInBounds_toArray, List.set_cons_zero, List.set_cons_succ, i64_w, i32_w]
              rfl
            refine pure_ (i := 7) (N := some 16) (v := ?_) (a' := ?_) #[true, true, true, true, true, false, true, true, false, false, false, false, false, false, false, false, false, false, false, false, false, false] rfl rfl (any_of HT_.out (by kernel_rfl)) (fun _ _ _ h => h) (Or.inl ⟨by rfl, ?_⟩) ?_ ?_
            rotate_left
            · intro w'
              go_simp
              with_reducible rfl
            rotate_left
            · simp only [Act.put, List.setIfInBounds_toArray, List.set_cons_zero, List.set_cons_succ, i64_w, i32_w]
              rfl
            refine take_ (i := 8) (N := some 17) (v := ?_) (a' := ?_) #[true, true, true, true, true, false, true, true, true, false, false, false, false, false, false, false, false, false, false, false, false, false] rfl rfl (take_ofW HT_.out HW_.out (by kernel_rfl)) (fun _ _ _ h => h) (Or.inl ⟨by rfl, ?_⟩) hHeld ?_ ?_
            rotate_left
            · rintro w' ⟨s0, s1, s2⟩
              clear s2
              go_simp
              with_reducible rfl
            rotate_left
            · simp only [Act.put, List.setIfInBounds_toArray, List.set_cons_zero, List.set_cons_succ, i64_w, i32_w]
              rfl
            refine one_ (i := 5) (N := some 14) #[true, true, true, true, true, true, true, true, true, false, false, false, false, false, false, false, false, false, false, false, false, false] rfl rfl (one_of HT_.out (by kernel_rfl)) (by decide) (fun K9 hK => ?_)
            refine goes_ Try.func53 (by kernel_rfl) rfl #[.int .u32 on] (by rfl) rfl rfl (by (try simp only [List.map_toArray, List.map_cons, List.map_nil]); first | done | rfl) ?_
            refine (count_calls on HO.out _).mono ?_
            rintro e W4 ⟨he, hb⟩
            rw [hon1] at he
            subst he
            refine ⟨_, rfl, ?_⟩
            replace K := Lib.hid (JBox.keep K.out hb)
            replace Z := Lib.hid (JBox.keep Z.out hb)
            replace HV := Lib.hid (HV.out.keep hb)
            replace HB := Lib.hid (below_then HB.out HB.out.size hb)
            clear hb
            refine hK.out _ _ ⟨JBox.cell K.out 7 rfl, JBox.cell K.out 12 rfl, K.out⟩ (fun hHeld => ?_)
            clear hK K9
            refine norm_ (a' := ?_) ?_ ?_
            rotate_left
            · show Act.put _ (some 14) _ = _
              simp only [Act.put, List.setIfInBounds_toArray, List.set_cons_zero, List.set_cons_succ, i64_w, i32_w]
              rfl
            refine pure_ (i := 9) (N := some 18) (v := ?_) (a' := ?_) #[true, true, true, true, true, true, true, true, true, true, false, false, false, false, false, false, false, false, false, false, false, false] rfl rfl (any_of HT_.out (by kernel_rfl)) (fun _ _ _ h => h) (Or.inl ⟨by rfl, ?_⟩) ?_ ?_
            rotate_left
            · intro w'
              go_simp
              with_reducible rfl
            rotate_left
            · simp only [Act.put, List.setIfInBounds_toArray, List.set_cons_zero, List.set_cons_succ, i64_w, i32_w]
              rfl
            refine pure_ (i := 10) (N := some 19) (v := ?_) (a' := ?_) #[true, true, true, true, true, true, true, true, true, true, true, false, false, false, false, false, false, false, false, false, false, false] rfl rfl (any_of HT_.out (by kernel_rfl)) (fun _ _ _ h => h) (Or.inl ⟨by rfl, ?_⟩) ?_ ?_
            rotate_left
            · intro w'
              go_simp
              with_reducible rfl
            rotate_left
            · simp only [Act.put, List.setIfInBounds_toArray, List.set_cons_zero, List.set_cons_succ, i64_w, i32_w]
              rfl
            refine pure_ (i := 11) (N := some 20) (v := ?_) (a' := ?_) #[true, true, true, true, true, true, true, true, true, true, true, true, false, false, false, false, false, false, false, false, false, false] rfl rfl (any_of HT_.out (by kernel_rfl)) (fun _ _ _ h => h) (Or.inl ⟨by rfl, ?_⟩) ?_ ?_
            rotate_left
            · intro w'
              go_simp
              with_reducible rfl
            rotate_left
            · simp only [Act.put, List.setIfInBounds_toArray, List.set_cons_zero, List.set_cons_succ, i64_w, i32_w]
              rfl
            refine pure_ (i := 12) (N := some 21) (v := ?_) (a' := ?_) #[true, true, true, true, true, true, true, true, true, true, true, true, true, false, false, false, false, false, false, false, false, false] rfl rfl (any_of HT_.out (by kernel_rfl)) (fun _ _ _ h => h) (Or.inl ⟨by rfl, ?_⟩) ?_ ?_
            rotate_left
            · intro w'
              go_simp
              with_reducible rfl
            rotate_left
            · simp only [Act.put, List.setIfInBounds_toArray, List.set_cons_zero, List.set_cons_succ, i64_w, i32_w]
              rfl
            refine pure_ (i := 13) (N := some 22) (v := ?_) (a' := ?_) #[true, true, true, true, true, true, true, true, true, true, true, true, true, true, false, false, false, false, false, false, false, false] rfl rfl (any_of HT_.out (by kernel_rfl)) (fun _ _ _ h => h) (Or.inl ⟨by rfl, ?_⟩) ?_ ?_
            rotate_left
            · intro w'
              go_simp
              with_reducible rfl
            rotate_left
            · simp only [Act.put, List.setIfInBounds_toArray, List.set_cons_zero, List.set_cons_succ, i64_w, i32_w]
              rfl
            refine take_ (i := 14) (N := some 23) (v := ?_) (a' := ?_) #[true, true, true, true, true, true, true, true, true, true, true, true, true, true, true, false, false, false, false, false, false, false] rfl rfl (take_ofW HT_.out HW_.out (by kernel_rfl)) (fun _ _ _ h => h) (Or.inl ⟨by rfl, ?_⟩) hHeld ?_ ?_
            rotate_left
            · rintro w' ⟨s0, s1, s2⟩
              clear s2
              go_simp
              with_reducible rfl
            rotate_left
            · simp only [Act.put, List.setIfInBounds_toArray, List.set_cons_zero, List.set_cons_succ, i64_w, i32_w]
              rfl
            refine pure_ (i := 15) (N := some 24) (v := ?_) (a' := ?_) #[true, true, true, true, true, true, true, true, true, true, true, true, true, true, true, true, false, false, false, false, false, false] rfl rfl (any_of HT_.out (by kernel_rfl)) (fun _ _ _ h => h) (Or.inl ⟨by rfl, ?_⟩) ?_ ?_
            rotate_left
            · intro w'
              go_simp
              with_reducible rfl
            rotate_left
            · simp only [Act.put, List.setIfInBounds_toArray, List.set_cons_zero, List.set_cons_succ, i64_w, i32_w]
              rfl
            refine pure_ (i := 16) (N := some 25) (v := ?_) (a' := ?_) #[true, true, true, true, true, true, true, true, true, true, true, true, true, true, true, true, true, false, false, false, false, false] rfl rfl (any_of HT_.out (by kernel_rfl)) (fun _ _ _ h => h) (Or.inl ⟨by rfl, ?_⟩) ?_ ?_
            rotate_left
            · intro w'
              go_simp
              with_reducible rfl
            rotate_left
            · simp only [Act.put, List.setIfInBounds_toArray, List.set_cons_zero, List.set_cons_succ, i64_w, i32_w]
              rfl
            refine pure_ (i := 17) (N := some 26) (v := ?_) (a' := ?_) #[true, true, true, true, true, true, true, true, true, true, true, true, true, true, true, true, true, true, false, false, false, false] rfl rfl (any_of HT_.out (by kernel_rfl)) (fun _ _ _ h => h) (Or.inl ⟨by rfl, ?_⟩) ?_ ?_
            rotate_left
            · intro w'
              go_simp
              with_reducible rfl
            rotate_left
            · simp only [Act.put, List.setIfInBounds_toArray, List.set_cons_zero, List.set_cons_succ, i64_w, i32_w]
              rfl
            refine pure_ (i := 18) (N := some 27) (v := ?_) (a' := ?_) #[true, true, true, true, true, true, true, true, true, true, true, true, true, true, true, true, true, true, true, false, false, false] rfl rfl (any_of HT_.out (by kernel_rfl)) (fun _ _ _ h => h) (Or.inl ⟨by rfl, ?_⟩) ?_ ?_
            rotate_left
            · intro w'
              go_simp
              with_reducible rfl
            rotate_left
            · simp only [Act.put, List.setIfInBounds_toArray, List.set_cons_zero, List.set_cons_succ, i64_w, i32_w]
              rfl
            refine pure_ (i := 19) (N := some 28) (v := ?_) (a' := ?_) #[true, true, true, true, true, true, true, true, true, true, true, true, true, true, true, true, true, true, true, true, false, false] rfl rfl (any_of HT_.out (by kernel_rfl)) (fun _ _ _ h => h) (Or.inl ⟨by rfl, ?_⟩) ?_ ?_
            rotate_left
            · intro w'
              go_simp
              with_reducible rfl
            rotate_left
            · simp only [Act.put, List.setIfInBounds_toArray, List.set_cons_zero, List.set_cons_succ, i64_w, i32_w]
              rfl
            refine pure_ (i := 20) (N := some 29) (v := ?_) (a' := ?_) #[true, true, true, true, true, true, true, true, true, true, true, true, true, true, true, true, true, true, true, true, true, false] rfl rfl (any_of HT_.out (by kernel_rfl)) (fun _ _ _ h => h) (Or.inl ⟨by rfl, ?_⟩) ?_ ?_
            rotate_left
            · intro w'
              go_simp
              with_reducible rfl
            rotate_left
            · simp only [Act.put, List.setIfInBounds_toArray, List.set_cons_zero, List.set_cons_succ, i64_w, i32_w]
              rfl
            refine pure_ (i := 21) (N := some 8) (v := ?_) (a' := ?_) #[true, true, true, true, true, true, true, true, true, true, true, true, true, true, true, true, true, true, true, true, true, true] rfl rfl (any_of HT_.out (by kernel_rfl)) (fun _ _ _ h => h) (Or.inl ⟨by rfl, ?_⟩) ?_ ?_
            rotate_left
            · intro w'
              go_simp
              with_reducible rfl
            rotate_left
            · simp only [Act.put, List.setIfInBounds_toArray, List.set_cons_zero, List.set_cons_succ, i64_w, i32_w]
              rfl
            refine done_ (done_of HT_.out (by kernel_rfl)) ?_
            try go_wp2
            go_meet
            case rel => exact ⟨by rw [HBad.out]; rfl, K, Z, HV, HB⟩
  case rest =>
    as_aux_lemma =>
    clear K Z HV HB
    obtain ⟨rfl, K, Z, HV, HB⟩ := hcut
    have HF : Hid (beginJ x on now = if badB x on now = true then (z43, 2) else if x.f4 = 1 then ({ x with f4 := 2, f6 := now, f8 := on }, 0) else (z43, 180)) := Lib.hid (by
      unfold beginJ badB
      by_cases hh : rightJ x = true ∧ ones on = x.f3.f4 ∧ x.f5 ≤ now ∧ now ≤ 1099511627776
      · rw [if_pos hh, decide_eq_true hh]; simp
      · rw [if_neg hh, decide_eq_false hh]; rfl)
    generalize badB x on now = bd at HF ⊢
    cases bd with
    | true =>
      rw [if_pos rfl] at HF
      have z0 := Z.out
      go_wp2_with ((with_reducible refine gate_ (.store 43 (.tmp 6) (.tmp 30)) rfl ?_); refine st_job 43 (.tmp 6) (.tmp 30) (cells := jobC z43 none 0) rfl rfl rfl rfl z0 job_info rfl (jobC_one _ _ _) ?_; intro W5 h5 h6 h7)
      replace HB := Lib.hid (h7 _ _ NE.out.2.1 HB.out)
      refine bodyPost_ret (results_ct rfl _ _ b6 43 _ (0, 0) _ rfl h5 Try.underlying43 rfl job_info) rfl ?_
      exact ⟨none, 0, by rw [HF.out]; rfl, by rw [HF.out]; exact ⟨Nat.le_refl _, Kd.C_nil _ _⟩, by rw [HF.out]; exact Kd.R_nil _ _ _ _ _, HB.out⟩
    | false =>
      rw [if_neg (by decide)] at HF
      have g11 : wc.cell? ⟨b3, 11, none⟩ = some (.int .u8 x.f4) := K.out.cell 11 rfl
      by_cases c4 : x.f4 = 1
      · have c4b : (x.f4 != 1) = false := bne_eq_false_iff_eq.2 c4
        rw [if_pos c4] at HF
        clear c4
        as_aux_lemma =>
        have g10 : wc.cell? ⟨b3, 10, none⟩ = some (.slice A x.f3.f7.length c) := K.out.cell 10 rfl
        have HCl := Lib.hid (api_Dep_81.calls A c x.f3.f7 x.f3.f7 wc HV.out.2 HV.out.1 (by unfold api_Dep_81.f; rw [if_pos HX.out.2]))
        go_upto_region 5 with (fail)
        go_wp2_with fail
        refine HCl.out.mono ?_
        rintro e w5 ⟨v0, rfl, hr, hb⟩
        obtain ⟨A5, c5, rfl, h51, h52⟩ := open_R hr
        have HR := Lib.hid (Kd.R_newB (Kd.R_newB hr K.out) Z.out)
        have HLw := Lib.hid HB.out.size
        replace K := Lib.hid (K.out.keep hb)
        replace Z := Lib.hid (Z.out.keep hb)
        replace HB := Lib.hid (below_then HB.out HB.out.size hb)
        clear hb g10 g11 HCl hr h51 h52 HV
        have g10 : w5.cell? ⟨b3, 10, none⟩ = some (.slice A x.f3.f7.length c) := K.out.cell 10 rfl
        have g10f := blk_frozen K.out 10
        have g11 : w5.cell? ⟨b3, 11, none⟩ = some (.int .u8 x.f4) := K.out.cell 11 rfl
        have g11f := blk_frozen K.out 11
        have g13 : w5.cell? ⟨b3, 13, none⟩ = some (.int .i64 x.f6) := K.out.cell 13 rfl
        have g13f := blk_frozen K.out 13
        have g15 : w5.cell? ⟨b3, 15, none⟩ = some (.int .u32 x.f8) := K.out.cell 15 rfl
        have g15f := blk_frozen K.out 15
        go_upto_region 7 with (fail)
        generalize hWD : (World.setCell (World.setCell (World.setCell (World.setCell w5 ⟨b3, 10, none⟩ (.slice A5 x.f3.f7.length c5)) ⟨b3, 11, none⟩ (.int .u8 2)) ⟨b3, 13, none⟩ (.int .i64 now)) ⟨b3, 15, none⟩ (.int .u32 on)) = W7
        replace HR := Lib.hid (show Kd.R k104 104 W7 wc.heap.size (fun k => (True ∧ k ≠ b3) ∧ k ≠ b6) (.slice A5 x.f3.f7.length c5) x.f3.f7 by rw [← hWD]; exact (Kd.R_far (p := ⟨b3, 15, none⟩) (Kd.R_far (p := ⟨b3, 13, none⟩) (Kd.R_far (p := ⟨b3, 11, none⟩) (Kd.R_far (p := ⟨b3, 10, none⟩) HR.out (fun k hk => hk.1.2) (.slice A5 x.f3.f7.length c5)) (fun k hk => hk.1.2) (.int .u8 2)) (fun k hk => hk.1.2) (.int .i64 now)) (fun k hk => hk.1.2) (.int .u32 on)))
        replace HB := Lib.hid (show Below w.heap.size w W7 by rw [← hWD]; exact (HB_set (HB_set (HB_set (HB_set HB.out NE.out.2.2 10 (.slice A5 x.f3.f7.length c5)) NE.out.2.2 11 (.int .u8 2)) NE.out.2.2 13 (.int .i64 now)) NE.out.2.2 15 (.int .u32 on)))
        replace Z := Lib.hid (show JBox W7 b6 z43 none 0 by rw [← hWD]; exact (blk_far (blk_far (blk_far (blk_far Z.out (p := ⟨b3, 10, none⟩) NE.out.1 (.slice A5 x.f3.f7.length c5)) (p := ⟨b3, 11, none⟩) NE.out.1 (.int .u8 2)) (p := ⟨b3, 13, none⟩) NE.out.1 (.int .i64 now)) (p := ⟨b3, 15, none⟩) NE.out.1 (.int .u32 on)))
        replace K := Lib.hid (show JBox W7 b3 ({ x with f4 := 2, f6 := now, f8 := on } : S43) A5 c5 by rw [← hWD]; exact (blk_set (blk_set (blk_set (blk_set K.out 10 (.slice A5 x.f3.f7.length c5)) 11 (.int .u8 2)) 13 (.int .i64 now)) 15 (.int .u32 on)))
        clear hWD g10 g10f g11 g11f g13 g13f g15 g15f
        have hld := K.out.load
        have z0 := Z.out
        go_wp2_with (first | ((with_reducible refine gate_ (.load 43 (.tmp 3)) rfl ?_); refine wl_load 43 (.tmp 3) rfl rfl _ _ rfl hld ?_) | ((with_reducible refine gate_ (.store 43 (.tmp 6) (.tmp 47)) rfl ?_); refine st_job 43 (.tmp 6) (.tmp 47) (cells := jobC ({ x with f4 := 2, f6 := now, f8 := on } : S43) A5 c5) rfl rfl rfl rfl z0 job_info rfl (jobC_one _ _ _) ?_; intro W9 h5 h6 h7))
        replace HB := Lib.hid (h7 _ _ NE.out.2.1 HB.out)
        have HR9 := Kd.R_step HR.out (fun k hk _ => h6 k hk.2)
        refine bodyPost_ret (results_ct rfl _ _ b6 43 _ (0, 0) _ rfl h5 Try.underlying43 rfl job_info) rfl ?_
        exact ⟨A5, c5, by rw [HF.out]; rfl, by rw [HF.out]; exact ⟨(Kd.R_reads' HR9).2.1, (Kd.R_reads' HR9).2.2⟩, by rw [HF.out]; exact Kd.R_mono (Kd.R_lower HR9 HLw.out) (fun _ _ => trivial), HB.out⟩
      · have c4b : (x.f4 != 1) = true := bne_iff_ne.2 c4
        rw [if_neg c4] at HF
        clear c4
        have z0 := Z.out
        go_wp2_with ((with_reducible refine gate_ (.store 43 (.tmp 6) (.tmp 35)) rfl ?_); refine st_job 43 (.tmp 6) (.tmp 35) (cells := jobC z43 none 0) rfl rfl rfl rfl z0 job_info rfl (jobC_one _ _ _) ?_; intro W5 h5 h6 h7)
        replace HB := Lib.hid (h7 _ _ NE.out.2.1 HB.out)
        refine bodyPost_ret (results_ct rfl _ _ b6 43 _ (0, 0) _ rfl h5 Try.underlying43 rfl job_info) rfl ?_
        exact ⟨none, 0, by rw [HF.out]; rfl, by rw [HF.out]; exact ⟨Nat.le_refl _, Kd.C_nil _ _⟩, by rw [HF.out]; exact Kd.R_nil _ _ _ _ _, HB.out⟩
end Go.Proofs.Ythcikldhlohjbaa.PS.Jb
