/- job.Finish, walked with a job held as one value. (A part of the print PJ.) -/
import Derived.Test.YthcikldhlohjbaaSJobW
import Derived.Laws.CopyOwn
set_option linter.unusedVariables false
set_option linter.unusedSimpArgs false
namespace Go.Proofs.Ythcikldhlohjbaa.PS.Jb
open Go.RowKit Go.Proofs.YthcikldhlohjbaaW.PrintWords Go.Proofs.YthcikldhlohjbaaW.PrintLast Go.Proofs.YthcikldhlohjbaaW.PrintMore Go.Proofs.Ythcikldhlohjbaa.Ones
attribute [local go_sem] max2_int min2_int max_two min_two max_three min_three max_four min_four
theorem wl_loadG {P : Program} {ops : Array Oper} {rest : List Oper} {o : Oper} {a : Act} {Q : Exit → Act → World → Prop} {W : World} (t : TypeId) (x : Operand) (ho : o.op = .load t x) (hw : Region.wanted o (yielded ops a.tmps) = true) (p V : Value) (hx : a.eval x = p) (hld : (Instr.loadAt t p).run P W = .ok V W) (h : wpList P ops Q rest (a.put o.dst V) W) : wpList P ops Q (o :: rest) a W :=
  wpList_step fun K hK => event_step hw (exec_load ho hx hld) (hK _ _ h)
theorem exec_store {P : Program} {o : Oper} {a : Act} {t : TypeId} {p v : Operand} {W : World} {g : Nat} {t0 : TypeId} {old cells : Array Value} (ho : o.op = .store t p v) (hp : a.eval p = .pointer (some ⟨g, 0, none⟩)) (hv : a.eval v = .agg cells) (hg : W.heap[g]? = some (.cells old t0 (0, 0)))
    (hi : (P.info? t).map (·.size) = some cells.size) (hs : old.size = cells.size) (h1 : cells.all (·.oneCell') = true) : (execOp a.eval o).run P W = .ok .skip (W.setRow g cells) := by
  have h2 := run_storeVar_row (P := P) W g t0 t old cells hg hi hs h1
  unfold execOp
  rw [ho]
  simp only [hp, hv, Instr.storeAt, Instr.sureAddr, Sem.run_bind, Sem.run_pure, Result.andThen_ok, h2]
/-- A whole struct is stored. -/
theorem st_job {P : Program} {ops : Array Oper} {rest : List Oper} {o : Oper} {a : Act} {Q : Exit → Act → World → Prop} (t : TypeId) (p v : Operand) {W : World} {g : Nat} {t0 : TypeId} {old cells : Array Value} (ho : o.op = .store t p v) (hgd : o.guard = none) (hp : a.eval p = .pointer (some ⟨g, 0, none⟩)) (hv : a.eval v = .agg cells) (hg : W.heap[g]? = some (.cells old t0 (0, 0)))
    (hi : (P.info? t).map (·.size) = some cells.size) (hs : old.size = cells.size) (h1 : cells.all (·.oneCell') = true)
    (h : ∀ W', W'.heap[g]? = some (.cells cells t0 (0, 0)) → (∀ k, k ≠ g → W'.heap[k]? = W.heap[k]?) → (∀ B w0, B ≤ g → Below B w0 W → Below B w0 W') → wpList P ops Q rest (a.put o.dst undef) W') : wpList P ops Q (o :: rest) a W :=
  wpList_plain hgd fun K hK => by
    unfold Oper.wp
    rw [exec_store ho hp hv hg hi hs h1]
    exact hK _ _ (h _ (setRow_heap W g old cells t0 (0, 0) hg) (fun k hk => setRow_other W g k cells hk) (fun B w0 hB hb => below_setRow hb hB cells))
theorem contains_calls (s st : Int) (v : Value) (w0 w : World) (base : Nat) (hr : Kd.R (Kd.int .u8) 39 w base (fun _ => True) v (nextL s)) : ∃ A c, v = .slice A (nextL s).length c ∧ Calls Try.prog 79 #[.slice A (nextL s).length c, .int .u8 st] w fun e w' => e = .returned (.bool (decide (st ∈ nextL s))) ∧ Below w.heap.size w w' := by
  obtain ⟨A, c, rfl⟩ := Kd.R_slice hr
  refine ⟨A, c, rfl, (api_JobState_79.calls 9 A c (nextL s) st _ w (Kd.R_reads' hr).2.2 (Kd.R_reads' hr).2.1 (contains_f s st)).mono ?_⟩
  rintro e w' ⟨h, hd⟩
  exact ⟨h, hd.below⟩
theorem HB_set {w0 W : World} {B b : Nat} (h : Below B w0 W) (hB : B ≤ b) (i : Nat) (v : Value) : Below B w0 (W.setCell ⟨b, i, none⟩ v) := h.setCell hB v
def badF (x : S43) (now : Int) : Bool := !(decide (rightJ x = true ∧ (max x.f5 x.f6 ≤ now ∨ overS x.f4 = true) ∧ x.f5 ≤ now ∧ now ≤ 1099511627776))
theorem badF_eq (x : S43) (now : Int) : badF x now = !(rightJ x && (!(decide (now < (if x.f5 < x.f6 then x.f6 else x.f5))) || overS x.f4) && !(decide (now < x.f5)) && !(decide (1099511627776 < now))) := by
  have hm : (if x.f5 < x.f6 then x.f6 else x.f5) = max x.f5 x.f6 := by split <;> omega
  unfold badF
  rw [hm]
  cases rightJ x with
  | false => simp
  | true =>
    cases overS x.f4 <;> by_cases h1 : now < max x.f5 x.f6 <;> by_cases h2 : now < x.f5 <;> by_cases h3 : 1099511627776 < now <;> simp [h1, h2, h3] <;> omega
theorem size_al (W : World) (o : Obj) : (W.alloc o).heap.size = W.heap.size + 1 := by
  rw [World.size_alloc]
set_option maxRecDepth 100000 in
set_option maxHeartbeats 4000000 in
theorem finish_calls {x : S43} (st ex now : Int) (h : JOk x) (A : Option Addr) (c : Nat) (w : World) (hv : JV w x A c) :
    Calls Try.prog 26 #[jobV x A c, .int .u8 st, .int .i64 ex, .int .i64 now] w fun e w' => ∃ A' c', e = .returned (.tuple #[jobV (finishJ x st ex now).1 A' c', .int .i64 (finishJ x st ex now).2]) ∧ JV w' (finishJ x st ex now).1 A' c' ∧ Below w.heap.size w w' := by
  have HV := Lib.hid hv
  have HX := Lib.hid h
  clear hv h
  rw [show jobV x A c = .agg #[.int .i64 x.f0, .int .i64 x.f1, .int .i64 x.f2, .string x.f3.f0, .string x.f3.f1, .string x.f3.f2, .string x.f3.f3, .int .i64 x.f3.f4, .int .i64 x.f3.f5, .int .i64 x.f3.f6, .slice A x.f3.f7.length c, .int .u8 x.f4, .int .i64 x.f5, .int .i64 x.f6, .int .i64 x.f7, .int .u32 x.f8, .int .i64 x.f9] from rfl]
  go_enter Try.func26, Try.ntmps26
  go_upto_region 1 with (fail)
  generalize hWD : (w.alloc (.cells _ 43)).alloc (.cells _ 43) = WD
  have es := size_al
  obtain ⟨b4, hb4⟩ : ∃ b, b = w.heap.size := ⟨_, rfl⟩
  obtain ⟨b8, hb8⟩ : ∃ b, b = w.heap.size + 1 := ⟨_, rfl⟩
  rw [← hb8, ← hb4]
  have hne : b8 ≠ b4 := by omega
  have hg8 : w.heap.size ≤ b8 := by omega
  have hg4 : w.heap.size ≤ b4 := by omega
  have NE := Lib.hid (And.intro hne (And.intro hg8 hg4))
  have K : Hid (JBox WD b4 x A c) := Lib.hid (by rw [← hWD, hb4]; exact blk_alloc (blk_new _ _) _)
  have Z : Hid (JBox WD b8 z43 none 0) := Lib.hid (by rw [← hWD, hb8, ← es]; exact blk_new _ _)
  have hk : Below w.heap.size w WD := by rw [← hWD]; exact below_alloc (below_alloc (Below.refl _ _) _) _
  replace HV := Lib.hid (HV.out.keep hk)
  have HB := Lib.hid hk
  clear hWD es hb4 hb8 hk hne hg8 hg4
  go_cut [10] (fun v10 wc => v10 = .bool (badF x now) ∧ Hid (JBox wc b4 x A c) ∧ Hid (JBox wc b8 z43 none 0) ∧ Hid (JV wc x A c) ∧ Hid (Below w.heap.size w wc))
  case first =>
    as_aux_lemma =>
    have g11 : WD.cell? ⟨b4, 11, none⟩ = some (.int .u8 x.f4) := K.out.cell 11 rfl
    have hld := K.out.load
    go_wp2_with ((with_reducible refine gate_ (.load 43 (.tmp 4)) rfl ?_); refine wl_load 43 (.tmp 4) rfl rfl _ _ rfl hld ?_)
    refine (right_calls x A c _ HX.out.1 HV.out.2 HV.out.1).mono ?_
    rintro e w1 ⟨rfl, hb⟩
    replace K := Lib.hid (K.out.keep hb)
    replace Z := Lib.hid (Z.out.keep hb)
    replace HV := Lib.hid (HV.out.keep hb)
    replace HB := Lib.hid (below_then HB.out HB.out.size hb)
    clear hb hld g11
    have g11 : w1.cell? ⟨b4, 11, none⟩ = some (.int .u8 x.f4) := K.out.cell 11 rfl
    have g12 : w1.cell? ⟨b4, 12, none⟩ = some (.int .i64 x.f5) := K.out.cell 12 rfl
    have g13 : w1.cell? ⟨b4, 13, none⟩ = some (.int .i64 x.f6) := K.out.cell 13 rfl
    have HBad := Lib.hid (badF_eq x now)
    obtain ⟨rj, hrj⟩ : ∃ r, r = rightJ x := ⟨_, rfl⟩
    rw [← hrj] at HBad ⊢
    clear hrj
    obtain ⟨mxx, hmx⟩ : ∃ m, m = (if x.f5 < x.f6 then x.f6 else x.f5) := ⟨_, rfl⟩
    have hmx2 := hmx.symm
    rw [← hmx] at HBad
    clear hmx
    cases rj with
    | false =>
      go_wp2
      go_meet
      case rel => exact ⟨by rw [HBad.out]; rfl, K, Z, HV, HB⟩
    | true =>
      cases d1 : decide (now < mxx) with
      | true =>
        go_wp2_with fail
        refine (over_calls x.f4 _).mono ?_
        rintro e w2 ⟨rfl, hb⟩
        replace K := Lib.hid (K.out.keep hb)
        replace Z := Lib.hid (Z.out.keep hb)
        replace HV := Lib.hid (HV.out.keep hb)
        replace HB := Lib.hid (below_then HB.out HB.out.size hb)
        clear hb g11 g12 g13
        have g12 : w2.cell? ⟨b4, 12, none⟩ = some (.int .i64 x.f5) := K.out.cell 12 rfl
        obtain ⟨ov, hov⟩ : ∃ r, r = overS x.f4 := ⟨_, rfl⟩
        rw [← hov] at HBad ⊢
        clear hov
        rw [d1] at HBad
        cases ov with
        | false =>
          go_wp2
          go_meet
          case rel => exact ⟨by rw [HBad.out]; rfl, K, Z, HV, HB⟩
        | true =>
          cases d2 : decide (now < x.f5) <;> cases d3 : decide (1099511627776 < now)
          all_goals
            rw [d2, d3] at HBad
            go_wp2
            go_meet
            case rel => exact ⟨by rw [HBad.out]; rfl, K, Z, HV, HB⟩
      | false =>
        rw [d1] at HBad
        cases d2 : decide (now < x.f5) <;> cases d3 : decide (1099511627776 < now)
        all_goals
          rw [d2, d3] at HBad
          go_wp2
          go_meet
          case rel => exact ⟨by rw [HBad.out]; rfl, K, Z, HV, HB⟩
  case rest =>
    as_aux_lemma =>
    clear K Z HV HB
    obtain ⟨rfl, K, Z, HV, HB⟩ := hcut
    have HF : Hid (finishJ x st ex now = if badF x now = true then (z43, 2) else if decide (st ∈ nextL x.f4) = true then ({ x with f4 := st, f7 := now, f9 := if st = 4 then (if ex = 0 then 1 else ex) else x.f9 }, 0) else (z43, 180)) := Lib.hid (by
      unfold finishJ badF
      by_cases hh : rightJ x = true ∧ (max x.f5 x.f6 ≤ now ∨ overS x.f4 = true) ∧ x.f5 ≤ now ∧ now ≤ 1099511627776
      · rw [if_pos hh, decide_eq_true hh]; simp
      · rw [if_neg hh, decide_eq_false hh]; rfl)
    generalize badF x now = bd at HF ⊢
    cases bd with
    | true =>
      rw [if_pos rfl] at HF
      have z0 := Z.out
      go_wp2_with ((with_reducible refine gate_ (.store 43 (.tmp 8) (.tmp 39)) rfl ?_); refine st_job 43 (.tmp 8) (.tmp 39) (cells := jobC z43 none 0) rfl rfl rfl rfl z0 job_info rfl (jobC_one _ _ _) ?_; intro W5 h5 h6 h7)
      replace HB := Lib.hid (h7 _ _ NE.out.2.1 HB.out)
      refine bodyPost_ret (results_ct rfl _ _ b8 43 _ (0, 0) _ rfl h5 Try.underlying43 rfl job_info) rfl ?_
      exact ⟨none, 0, by rw [HF.out]; rfl, by rw [HF.out]; exact ⟨Nat.le_refl _, Kd.C_nil _ _⟩, HB.out⟩
    | false =>
      rw [if_neg (by decide)] at HF
      have g11 : wc.cell? ⟨b4, 11, none⟩ = some (.int .u8 x.f4) := K.out.cell 11 rfl
      go_wp2_with fail
      refine (job_next.calls x.f4 (nextL x.f4) _ (next_f x.f4)).mono ?_
      rintro e w3 ⟨vn, rfl, hrn, hb⟩
      obtain ⟨An, cn, rfl, hcn⟩ := contains_calls x.f4 st vn w3 w3 _ hrn
      have HCN := Lib.hid hcn
      replace K := Lib.hid (K.out.keep hb)
      replace Z := Lib.hid (Z.out.keep hb)
      replace HV := Lib.hid (HV.out.keep hb)
      replace HB := Lib.hid (below_then HB.out HB.out.size hb)
      clear hb g11 hrn hcn
      go_wp2_with fail
      refine HCN.out.mono ?_
      rintro e w4 ⟨rfl, hb⟩
      replace K := Lib.hid (K.out.keep hb)
      replace Z := Lib.hid (Z.out.keep hb)
      replace HV := Lib.hid (HV.out.keep hb)
      replace HB := Lib.hid (below_then HB.out HB.out.size hb)
      clear hb HCN
      generalize decide (st ∈ nextL x.f4) = ct at HF ⊢
      cases ct with
      | false =>
        rw [if_neg (by decide)] at HF
        have z0 := Z.out
        go_wp2_with ((with_reducible refine gate_ (.store 43 (.tmp 8) (.tmp 47)) rfl ?_); refine st_job 43 (.tmp 8) (.tmp 47) (cells := jobC z43 none 0) rfl rfl rfl rfl z0 job_info rfl (jobC_one _ _ _) ?_; intro W5 h5 h6 h7)
        replace HB := Lib.hid (h7 _ _ NE.out.2.1 HB.out)
        refine bodyPost_ret (results_ct rfl _ _ b8 43 _ (0, 0) _ rfl h5 Try.underlying43 rfl job_info) rfl ?_
        exact ⟨none, 0, by rw [HF.out]; rfl, by rw [HF.out]; exact ⟨Nat.le_refl _, Kd.C_nil _ _⟩, HB.out⟩
      | true =>
        rw [if_pos rfl] at HF
        as_aux_lemma =>
        have g10 : w4.cell? ⟨b4, 10, none⟩ = some (.slice A x.f3.f7.length c) := K.out.cell 10 rfl
        have HCl := Lib.hid (api_Dep_81.calls A c x.f3.f7 x.f3.f7 w4 HV.out.2 HV.out.1 (by unfold api_Dep_81.f; rw [if_pos HX.out.2]))
        go_upto_region 5 with (fail)
        go_wp2_with fail
        refine HCl.out.mono ?_
        rintro e w5 ⟨v0, rfl, hr, hb⟩
        obtain ⟨A5, c5, rfl, h51, h52⟩ := open_R hr
        have HR := Lib.hid (Kd.R_newB (Kd.R_newB hr K.out) Z.out)
        replace K := Lib.hid (K.out.keep hb)
        replace Z := Lib.hid (Z.out.keep hb)
        replace HB := Lib.hid (below_then HB.out HB.out.size hb)
        clear hb g10 HCl hr h51 h52 HV
        have g10 : w5.cell? ⟨b4, 10, none⟩ = some (.slice A x.f3.f7.length c) := K.out.cell 10 rfl
        have g10f := blk_frozen K.out 10
        have g11 : w5.cell? ⟨b4, 11, none⟩ = some (.int .u8 x.f4) := K.out.cell 11 rfl
        have g11f := blk_frozen K.out 11
        have g14 : w5.cell? ⟨b4, 14, none⟩ = some (.int .i64 x.f7) := K.out.cell 14 rfl
        have g14f := blk_frozen K.out 14
        go_upto_region 7 with (fail)
        generalize hWD : (World.setCell (World.setCell (World.setCell w5 ⟨b4, 10, none⟩ (.slice A5 x.f3.f7.length c5)) ⟨b4, 11, none⟩ (.int .u8 st)) ⟨b4, 14, none⟩ (.int .i64 now)) = W7
        replace HR := Lib.hid (show Kd.R k104 104 W7 w4.heap.size (fun k => (True ∧ k ≠ b4) ∧ k ≠ b8) (.slice A5 x.f3.f7.length c5) x.f3.f7 by rw [← hWD]; exact (Kd.R_far (p := ⟨b4, 14, none⟩) (Kd.R_far (p := ⟨b4, 11, none⟩) (Kd.R_far (p := ⟨b4, 10, none⟩) HR.out (fun k hk => hk.1.2) (.slice A5 x.f3.f7.length c5)) (fun k hk => hk.1.2) (.int .u8 st)) (fun k hk => hk.1.2) (.int .i64 now)))
        replace HB := Lib.hid (show Below w.heap.size w W7 by rw [← hWD]; exact (HB_set (HB_set (HB_set HB.out NE.out.2.2 10 (.slice A5 x.f3.f7.length c5)) NE.out.2.2 11 (.int .u8 st)) NE.out.2.2 14 (.int .i64 now)))
        replace Z := Lib.hid (show JBox W7 b8 z43 none 0 by rw [← hWD]; exact (blk_far (blk_far (blk_far Z.out (p := ⟨b4, 10, none⟩) NE.out.1 (.slice A5 x.f3.f7.length c5)) (p := ⟨b4, 11, none⟩) NE.out.1 (.int .u8 st)) (p := ⟨b4, 14, none⟩) NE.out.1 (.int .i64 now)))
        replace K := Lib.hid (show JBox W7 b4 ({ x with f4 := st, f7 := now } : S43) A5 c5 by rw [← hWD]; exact (blk_set (blk_set (blk_set K.out 10 (.slice A5 x.f3.f7.length c5)) 11 (.int .u8 st)) 14 (.int .i64 now)))
        clear hWD
        clear g10 g10f g11 g11f g14 g14f
        by_cases c4 : st = 4
        · have c4b : (st == 4) = true := beq_iff_eq.2 c4
          rw [if_pos c4] at HF
          have g16 : W7.cell? ⟨b4, 16, none⟩ = some (.int .i64 x.f9) := K.out.cell 16 rfl
          have g16f := blk_frozen K.out 16
          clear c4
          go_upto_region 9 with (fail)
          generalize hWD : (World.setCell W7 ⟨b4, 16, none⟩ (.int .i64 ex)) = W8
          replace HR := Lib.hid (show Kd.R k104 104 W8 w4.heap.size (fun k => (True ∧ k ≠ b4) ∧ k ≠ b8) (.slice A5 x.f3.f7.length c5) x.f3.f7 by rw [← hWD]; exact (Kd.R_far (p := ⟨b4, 16, none⟩) HR.out (fun k hk => hk.1.2) (.int .i64 ex)))
          replace HB := Lib.hid (show Below w.heap.size w W8 by rw [← hWD]; exact (HB_set HB.out NE.out.2.2 16 (.int .i64 ex)))
          replace Z := Lib.hid (show JBox W8 b8 z43 none 0 by rw [← hWD]; exact (blk_far Z.out (p := ⟨b4, 16, none⟩) NE.out.1 (.int .i64 ex)))
          replace K := Lib.hid (show JBox W8 b4 ({ x with f4 := st, f7 := now, f9 := ex } : S43) A5 c5 by rw [← hWD]; exact (blk_set K.out 16 (.int .i64 ex)))
          clear hWD
          clear g16 g16f
          by_cases c0 : ex = 0
          · have c0b : (ex == 0) = true := beq_iff_eq.2 c0
            rw [if_pos c0] at HF
            have g16 : W8.cell? ⟨b4, 16, none⟩ = some (.int .i64 ex) := K.out.cell 16 rfl
            have g16f := blk_frozen K.out 16
            clear c0
            go_upto_region 11 with (fail)
            generalize hWD : (World.setCell W8 ⟨b4, 16, none⟩ (.int .i64 1)) = W10
            replace HR := Lib.hid (show Kd.R k104 104 W10 w4.heap.size (fun k => (True ∧ k ≠ b4) ∧ k ≠ b8) (.slice A5 x.f3.f7.length c5) x.f3.f7 by rw [← hWD]; exact (Kd.R_far (p := ⟨b4, 16, none⟩) HR.out (fun k hk => hk.1.2) (.int .i64 1)))
            replace HB := Lib.hid (show Below w.heap.size w W10 by rw [← hWD]; exact (HB_set HB.out NE.out.2.2 16 (.int .i64 1)))
            replace Z := Lib.hid (show JBox W10 b8 z43 none 0 by rw [← hWD]; exact (blk_far Z.out (p := ⟨b4, 16, none⟩) NE.out.1 (.int .i64 1)))
            replace K := Lib.hid (show JBox W10 b4 ({ x with f4 := st, f7 := now, f9 := 1 } : S43) A5 c5 by rw [← hWD]; exact (blk_set K.out 16 (.int .i64 1)))
            clear hWD
            clear g16 g16f
            have hld := K.out.load
            have z0 := Z.out
            go_wp2_with (first | ((with_reducible refine gate_ (.load 43 (.tmp 4)) rfl ?_); refine wl_load 43 (.tmp 4) rfl rfl _ _ rfl hld ?_) | ((with_reducible refine gate_ (.store 43 (.tmp 8) (.tmp 65)) rfl ?_); refine st_job 43 (.tmp 8) (.tmp 65) (cells := jobC ({ x with f4 := st, f7 := now, f9 := 1 } : S43) A5 c5) rfl rfl rfl rfl z0 job_info rfl (jobC_one _ _ _) ?_; intro W9 h5 h6 h7))
            replace HB := Lib.hid (h7 _ _ NE.out.2.1 HB.out)
            have HR9 := Kd.R_step HR.out (fun k hk _ => h6 k hk.2)
            refine bodyPost_ret (results_ct rfl _ _ b8 43 _ (0, 0) _ rfl h5 Try.underlying43 rfl job_info) rfl ?_
            exact ⟨A5, c5, by rw [HF.out]; rfl, by rw [HF.out]; exact ⟨(Kd.R_reads' HR9).2.1, (Kd.R_reads' HR9).2.2⟩, HB.out⟩
          · have c0b : (ex == 0) = false := beq_eq_false_iff_ne.2 c0
            rw [if_neg c0] at HF
            clear c0
            go_upto_region 11 with (fail)
            have hld := K.out.load
            have z0 := Z.out
            go_wp2_with (first | ((with_reducible refine gate_ (.load 43 (.tmp 4)) rfl ?_); refine wl_load 43 (.tmp 4) rfl rfl _ _ rfl hld ?_) | ((with_reducible refine gate_ (.store 43 (.tmp 8) (.tmp 65)) rfl ?_); refine st_job 43 (.tmp 8) (.tmp 65) (cells := jobC ({ x with f4 := st, f7 := now, f9 := ex } : S43) A5 c5) rfl rfl rfl rfl z0 job_info rfl (jobC_one _ _ _) ?_; intro W9 h5 h6 h7))
            replace HB := Lib.hid (h7 _ _ NE.out.2.1 HB.out)
            have HR9 := Kd.R_step HR.out (fun k hk _ => h6 k hk.2)
            refine bodyPost_ret (results_ct rfl _ _ b8 43 _ (0, 0) _ rfl h5 Try.underlying43 rfl job_info) rfl ?_
            exact ⟨A5, c5, by rw [HF.out]; rfl, by rw [HF.out]; exact ⟨(Kd.R_reads' HR9).2.1, (Kd.R_reads' HR9).2.2⟩, HB.out⟩
        · have c4b : (st == 4) = false := beq_eq_false_iff_ne.2 c4
          rw [if_neg c4] at HF
          clear c4
          go_upto_region 11 with (fail)
          have hld := K.out.load
          have z0 := Z.out
          go_wp2_with (first | ((with_reducible refine gate_ (.load 43 (.tmp 4)) rfl ?_); refine wl_load 43 (.tmp 4) rfl rfl _ _ rfl hld ?_) | ((with_reducible refine gate_ (.store 43 (.tmp 8) (.tmp 65)) rfl ?_); refine st_job 43 (.tmp 8) (.tmp 65) (cells := jobC ({ x with f4 := st, f7 := now } : S43) A5 c5) rfl rfl rfl rfl z0 job_info rfl (jobC_one _ _ _) ?_; intro W9 h5 h6 h7))
          replace HB := Lib.hid (h7 _ _ NE.out.2.1 HB.out)
          have HR9 := Kd.R_step HR.out (fun k hk _ => h6 k hk.2)
          refine bodyPost_ret (results_ct rfl _ _ b8 43 _ (0, 0) _ rfl h5 Try.underlying43 rfl job_info) rfl ?_
          exact ⟨A5, c5, by rw [HF.out]; rfl, by rw [HF.out]; exact ⟨(Kd.R_reads' HR9).2.1, (Kd.R_reads' HR9).2.2⟩, HB.out⟩
end Go.Proofs.Ythcikldhlohjbaa.PS.Jb
