/- FileSynced: what was synced stays through any crash. -/
import Derived.Test.YtfggcdpipolahaaFiHist
set_option linter.unusedVariables false
set_option linter.unusedSimpArgs false
namespace Go.Proofs.Ytfggcdpipolahaa.PF
open Go.RowKit Go.Proofs.YtfggcdpipolahaaW.PrintWords Go.Proofs.YtfggcdpipolahaaW.PrintLast Go.Proofs.YtfggcdpipolahaaW.PrintMore
attribute [local go_sem] max2_int min2_int max_two min_two
theorem small0 (m : Nat) : Small m ADk.new.now := by
  intro f
  unfold Fs.get
  split
  · exact Nat.zero_le _
  · split <;> exact Nat.zero_le _
theorem ld3 {w : World} {g : Nat} {x : Fs} (h : w.heap[g]? = some (.cells x.cells.toArray 38 (0, 0))) : (Instr.loadAt 38 (.pointer (some ⟨g, 0, none⟩))).run Try.prog w = .ok (.agg #[.string (strOfNums x.a), .string (strOfNums x.b), .string (strOfNums x.c)]) w := by
  have hld := run_loadVar_row (P := Try.prog) w g 38 38 x.cells.toArray (0, 0) _ h Try.underlying38 rfl info3s
  simp only [Instr.loadAt, Instr.sureAddr, Sem.run_bind, Sem.run_pure, Result.andThen_ok, hld]
  rfl
theorem eq3_guardA (p q : Operand) (x y : Fs) (W : World) : (eqGuard .eql 38 p q (.agg #[.string (strOfNums x.a), .string (strOfNums x.b), .string (strOfNums x.c)]) (.agg #[.string (strOfNums y.a), .string (strOfNums y.b), .string (strOfNums y.c)])).run Try.prog W = .ok () W := eq3_guard p q x y W
theorem eq3A (x y : Fs) (W : World) : (binOp .eql 38 (.agg #[.string (strOfNums x.a), .string (strOfNums x.b), .string (strOfNums x.c)]) (.agg #[.string (strOfNums y.a), .string (strOfNums y.b), .string (strOfNums y.c)])).run Try.prog W = .ok (.bool (same3 x y)) W := eq3 x y W
theorem cell3 {w : World} {g : Nat} {x : Fs} (h : w.heap[g]? = some (.cells x.cells.toArray 38 (0, 0))) {f : Nat} (hf : f < 3) : w.cell? ⟨g, f, none⟩ = some (.string (strOfNums (x.get f))) := by
  rw [blk_cell h f]
  match f, hf with
  | 0, _ => rfl
  | 1, _ => rfl
  | 2, _ => rfl
theorem set_get (x : Fs) (f : Nat) : x.set f (x.get f) = x := by
  unfold Fs.set Fs.get
  split
  · rfl
  · split <;> rfl
theorem part_start {R y : Fs} {o : AOp} {T : Nat} (h : R = if o.cut = true then y else y.done o T) : same3 R y = false → o.cut = false ∧ 0 ≤ o.f ∧ o.data ≠ [] := by
  intro hs
  have hne : R ≠ y := fun e => by rw [e, same3_refl] at hs; cases hs
  cases hc : o.cut with
  | true => rw [if_pos hc] at h; exact absurd h hne
  | false =>
    refine ⟨rfl, Nat.zero_le _, fun hd => hne ?_⟩
    rw [if_neg (by rw [hc]; decide)] at h
    rw [h]
    unfold Fs.done
    rw [if_neg (by rw [hc]; decide), hd, List.take_nil, List.append_nil, set_get]
theorem lens_at : ∀ (os : List AOp) (x : Fs) (k : Nat), Lens x os → AllLe (x.play (os.take k))
  | [], _, _, h => by rw [List.take_nil]; exact h
  | _ :: _, _, 0, h => h.1
  | o :: os, x, k + 1, h => lens_at os (x.done o o.data.length) k h.2
theorem done_get {y z : Fs} {o : AOp} (ho : o.Ok y) (hz : z = y.done o o.data.length) (hc : o.cut = false) : z.get o.f = y.get o.f ++ o.data := by
  rw [hz]
  unfold Fs.done
  rw [if_neg (by rw [hc]; decide), Fs.get_set _ _ ho.f, List.take_of_length_le (Nat.le_refl _)]
theorem step_lt {y z : Fs} {o : AOp} (ho : o.Ok y) (hz : z = y.done o o.data.length) (hc : o.cut = false) (hd : o.data ≠ []) : (y.get o.f).length < (z.get o.f).length := by
  rw [done_get ho hz hc, List.length_append]
  have : 0 < o.data.length := List.length_pos_iff.2 hd
  omega
theorem step_same {y z : Fs} {o : AOp} (ho : o.Ok y) (hz : z = y.done o o.data.length) (f : Nat) (hf : f < 3) (hne : ¬ f = o.f) : z.get f = y.get f := by
  rw [hz]
  unfold Fs.done
  split <;> exact get_set_ne _ ho.f hf hne _
theorem step_part {R y z : Fs} {o : AOp} {T0 : Nat} (ho : o.Ok y) (hz : z = y.done o o.data.length) (hR : R = if o.cut = true then y else y.done o T0) (hc : o.cut = false) (T : Nat) (hT : T0 = T) : R = y.set o.f ((z.get o.f).take (min ((y.get o.f).length + T) (z.get o.f).length)) := by
  subst hT
  rw [hR, if_neg (by rw [hc]; decide), done_get ho hz hc]
  unfold Fs.done
  rw [if_neg (by rw [hc]; decide)]
  congr 1
  rw [List.length_append]
  rw [show min ((y.get o.f).length + T0) ((y.get o.f).length + o.data.length) = (y.get o.f).length + min T0 o.data.length by omega, List.take_append, List.take_of_length_le (l := y.get o.f) (by omega), Nat.add_sub_cancel_left, take_min]
theorem ext_take (l : List Int) (m : Nat) : (strOfNums l).extract 0 m = strOfNums (l.take m) := by
  apply ByteArray.ext
  rw [ByteArray.data_extract]
  apply Array.ext'
  simp [strOfNums, List.map_take]
theorem cells_set (x : Fs) {f : Nat} (hf : f < 3) (l : List Int) : x.cells.toArray.setIfInBounds f (.string (strOfNums l)) = (x.set f l).cells.toArray := by
  match f, hf with
  | 0, _ => rfl
  | 1, _ => rfl
  | 2, _ => rfl
def law_synced.T19 : Bool × List (List Nat × List Nat) := (true, [([], []), ([], []), ([], []), ([1, 2], [1, 2]), ([3], [3]), ([0, 4], [0, 4]), ([5], [5]), ([6], [6]), ([7, 6, 6], [6, 7]), ([8, 6], [6, 8]), ([6, 9], [6, 9]), ([10, 8], [10]), ([11, 11], [11]), ([11, 12], [11, 12]), ([13, 12, 0, 1, 2, 3, 4, 5, 6, 7, 8, 9, 10, 11, 12, 13], [13])])
def law_synced.B19 : List Nat := [0, 0, 0, 6, 14, 31, 63, 127, 255, 511, 1023, 2047, 4095, 8191, 16383]
theorem law_synced.tab19 : rtab .any (opsOf Try.f4 19) = law_synced.T19 := by kernel_rfl
theorem law_synced.bits19 : waitsOk law_synced.T19.2 law_synced.B19 = true := by kernel_rfl
def law_synced.T20 : Bool × List (List Nat × List Nat) := (true, [([], []), ([], []), ([], []), ([1, 2], [1, 2]), ([3], [3]), ([0, 4], [0, 4]), ([5, 0, 1, 2, 3, 4, 5], [5])])
def law_synced.B20 : List Nat := [0, 0, 0, 6, 14, 31, 63]
theorem law_synced.tab20 : rtab .any (opsOf Try.f4 20) = law_synced.T20 := by kernel_rfl
theorem law_synced.bits20 : waitsOk law_synced.T20.2 law_synced.B20 = true := by kernel_rfl
def law_synced.T25 : Bool × List (List Nat × List Nat) := (true, [([], []), ([0], [0]), ([1], [1]), ([2], [2]), ([], []), ([3, 4], [3, 4]), ([], []), ([], []), ([7], [7]), ([], []), ([6, 8], [6, 8]), ([10, 9], [9, 10]), ([11], [11]), ([12], [12]), ([5, 13], [5, 13]), ([14, 0, 1, 2, 3, 4, 5, 6, 7, 8, 9, 10, 11, 12, 13, 14], [14])])
def law_synced.B25 : List Nat := [0, 1, 3, 7, 0, 31, 0, 0, 128, 0, 448, 1984, 4032, 8128, 16383, 32767]
theorem law_synced.tab25 : rtab .any (opsOf Try.f4 25) = law_synced.T25 := by kernel_rfl
theorem law_synced.bits25 : waitsOk law_synced.T25.2 law_synced.B25 = true := by kernel_rfl
def law_synced.T26 : Bool × List (List Nat × List Nat) := (true, [([], []), ([], []), ([1], [1]), ([], []), ([0, 2], [0, 2]), ([4, 3], [3, 4]), ([5], [5]), ([6], [6]), ([], []), ([8], [8]), ([9], [9]), ([10], [10]), ([7, 11], [7, 11])])
def law_synced.B26 : List Nat := [0, 0, 2, 0, 7, 31, 63, 127, 0, 256, 768, 1792, 4095]
theorem law_synced.tab26 : rtab .any (opsOf Try.f4 26) = law_synced.T26 := by kernel_rfl
theorem law_synced.bits26 : waitsOk law_synced.T26.2 law_synced.B26 = true := by kernel_rfl
def law_synced.T33 : Bool × List (List Nat × List Nat) := (true, [([], []), ([0], [0]), ([1], [1]), ([2, 1], [1, 2]), ([1, 3], [1, 3]), ([4, 1], [4]), ([5], [5]), ([6, 5], [5, 6]), ([5], [5]), ([8, 5], [5, 8]), ([9, 5], [5, 9]), ([7, 10, 5], [5, 7, 10]), ([5, 11], [5, 11]), ([12, 5, 0, 1, 2, 3, 4, 5, 6, 7, 8, 9, 10, 11, 12], [0, 12])])
def law_synced.B33 : List Nat := [0, 1, 3, 7, 15, 31, 63, 127, 63, 319, 831, 2047, 4095, 8191]
theorem law_synced.tab33 : rtab .any (opsOf Try.f4 33) = law_synced.T33 := by kernel_rfl
theorem law_synced.bits33 : waitsOk law_synced.T33.2 law_synced.B33 = true := by kernel_rfl
set_option maxRecDepth 100000 in
set_option maxHeartbeats 16000000 in
theorem synced_law (A : Option Addr) (c : Nat) (L : List Int) (keep torn : Int) (w : World) (hr : Kd.C (Kd.int .i64) w A L.length L) (hc : L.length ≤ c) :
    Calls Try.prog 4 #[.slice A L.length c, .int .i64 keep, .int .i64 torn] w fun e w' => e = .returned (.bool true) ∧ Below w.heap.size w w' := by
  have HL := Lib.hid hr
  have hln : L.length ≤ 9223372036854775807 := hr.2.1
  clear hr hc
  obtain ⟨K, hK, hpK⟩ := pick_any keep 50 (by decide) (by decide)
  obtain ⟨T, hT, hpT⟩ := pick_any torn 60 (by decide) (by decide)
  have HPK := Lib.hid (show ∀ w, Calls Try.prog 18 #[.int .i64 keep, .int .i64 50] w fun e w' => e = .returned (.int .i64 K) ∧ w = w' from hpK)
  have HPT := Lib.hid (show ∀ w, Calls Try.prog 18 #[.int .i64 torn, .int .i64 60] w fun e w' => e = .returned (.int .i64 T) ∧ w = w' from hpT)
  have HKT := Lib.hid (And.intro hK hT)
  have HD := Lib.hid (Disks.none_ w 0)
  clear hpK hpT hK hT
  go_enter Try.func4, Try.ntmps4
  go_wp2_with fail
  refine (HPK.out _).mono ?_
  rintro e w1 ⟨rfl, rfl⟩
  go_wp2_with fail
  refine (HPT.out _).mono ?_
  rintro e w1 ⟨rfl, rfl⟩
  clear HPK HPT
  go_wp2_with fail
  refine (HD.out.new).mono ?_
  rintro e w1 ⟨b, rfl, F1, hD, hb, hr, hk⟩
  have HF1 := Lib.hid hb
  replace HD := Lib.hid (hD.mono (ok' := fun _ => True) (fun _ _ => trivial))
  clear hD hb hr hk
  go_wp2_with fail
  refine (all_calls HD.out HF1.out rfl (by decide)).mono ?_
  rintro e w2 ⟨he, hb⟩
  replace he : e = .returned (.agg #[.string (strOfNums ADk.new.now.a), .string (strOfNums ADk.new.now.b), .string (strOfNums ADk.new.now.c)]) := he
  subst he
  replace HD := Lib.hid (HD.out.below hb)
  clear hb
  go_upto_region 5 with (fail)
  have H : Hid (SW w b 0 F1 ADk.new (.slice (some ⟨w2.heap.size, 0, none⟩) 1 1) (w2.alloc (.cells #[.string (strOfNums ADk.new.now.a), .string (strOfNums ADk.new.now.b), .string (strOfNums ADk.new.now.c)] 38))) := Lib.hid ⟨HD.out.below (below_alloc (Below.refl _ _) _), HF1.out, ⟨rfl, rfl, rfl⟩, small0 0, one3_R w2 w.heap.size HD.out.bel.size ADk.new.now⟩
  generalize w2.alloc (.cells #[.string (strOfNums ADk.new.now.a), .string (strOfNums ADk.new.now.b), .string (strOfNums ADk.new.now.c)] 38) = W at H ⊢
  generalize Value.slice (some ⟨w2.heap.size, 0, none⟩) 1 1 = V at H ⊢
  clear HD HF1
  go_loopw [8, 9] (fun v8 v9 wr => ∃ (i : Nat) (F : Nat → Option ADk) (a : ADk), i ≤ L.length ∧ i ≤ 40 ∧ v9 = .int .i64 i ∧ Hid (SW w b i F a v8 wr)) (fun _ v9 _ => 40 - (intOf v9).toNat)
  case atStart => exact ⟨0, F1, ADk.new, Nat.zero_le _, by omega, rfl, H⟩
  case round =>
    clear H
    obtain ⟨i, F, a, hiL, hi40, rfl, H⟩ := hrel
    by_cases hlt : i < L.length ∧ i < 40
    · obtain ⟨h1, h2⟩ := hlt
      have h3 : (i : Int) < 40 := by omega
      obtain ⟨ad, e1, hx⟩ := Kd.at_int HL.out (i : Int) (by omega) (by omega)
      subst e1
      replace hx := (H.out.dk.bel.cell (World.block_lt_of_cell? w _ hx)).trans hx
      rw [Int.toNat_natCast] at hx
      generalize rd L (i : Int) = z at hx
      obtain ⟨k, hk, hpk⟩ := pick_any z 1000003 (by decide) (by decide)
      have HPK := Lib.hid (show ∀ w, Calls Try.prog 18 #[.int .i64 z, .int .i64 1000003] w fun e w' => e = .returned (.int .i64 k) ∧ w = w' from hpk)
      have HKb := Lib.hid hk
      clear hpk hk
      by_cases h9 : k % 9 = 0
      · have e9 : (k : Int) % 9 = 0 := by omega
        go_wp2_with fail
        refine (HPK.out _).mono ?_
        rintro e w3 ⟨rfl, rfl⟩
        go_wp2_with fail
        refine (H.out.dk.sync H.out.at_ (quiet_sync H.out.quiet)).mono ?_
        rintro e w4 ⟨rfl, F', hD, hb, hrr, hk, _, hkt⟩
        have HD4 := Lib.hid (hD.mono (ok' := fun _ => True) (fun _ _ => trivial))
        have HF4 := Lib.hid hb
        clear hD hb hrr hk hkt
        go_wp2_with fail
        refine (all_calls HD4.out HF4.out H.out.quiet.down (by omega)).mono ?_
        rintro e w5 ⟨he, hb⟩
        replace he : e = .returned (.agg #[.string (strOfNums a.now.a), .string (strOfNums a.now.b), .string (strOfNums a.now.c)]) := he
        subst he
        have HD5 := Lib.hid (HD4.out.below hb)
        clear hb
        have HN := Lib.hid (show SW w b (i + 1) F' { a with safe := a.now, ops := [] } (.slice (some ⟨w5.heap.size, 0, none⟩) 1 1) (w5.alloc (.cells #[.string (strOfNums a.now.a), .string (strOfNums a.now.b), .string (strOfNums a.now.c)] 38)) from ⟨(HD5.out.below (below_alloc (Below.refl _ _) _)).le (Nat.le_succ i), HF4.out, ⟨H.out.quiet.down, H.out.quiet.arm, H.out.quiet.fail⟩, fun f => Nat.le_trans (H.out.small f) (by omega), one3_R w5 w.heap.size HD5.out.bel.size a.now⟩)
        clear HD4 HD5 H
        go_wp2
        go_roundw
        case rel => exact ⟨i + 1, F', { a with safe := a.now, ops := [] }, by omega, by omega, by go_num, HN⟩
        case measure => simp [intOf]; omega
      · have e9 : ¬ (k : Int) % 9 = 0 := by omega
        have e9' : (((k : Int) % 9) == 0) = false := by simp; omega
        obtain ⟨q, hq⟩ : ∃ q, q = k / 9 := ⟨_, rfl⟩
        have e8 : (k : Int) / 9 = (q : Int) := by omega
        have hq3 : q ≤ 1000003 := by have := HKb.out; omega
        clear hq
        go_wp2_with fail
        refine (HPK.out _).mono ?_
        rintro e w3 ⟨rfl, rfl⟩
        go_wp2_with fail
        refine (call_calls H.out.dk H.out.at_ H.out.quiet (fun f => Nat.le_trans (H.out.small f) (by omega)) (by omega) q i hq3 (by omega)).mono ?_
        rintro e w4 ⟨rfl, a', o, F', hst, hdl, hD, hb, hkt⟩
        have HSt := Lib.hid hst
        have HSm := Lib.hid (hst.small H.out.small hdl)
        have HD4 := Lib.hid hD
        have HF4 := Lib.hid hb
        have HR4 := Lib.hid (R_keptT rfl (by decide) (by decide) H.out.hist hkt)
        have HG := Lib.hid (H.out.dk.good H.out.at_)
        clear hst hdl hD hb hkt H
        go_wp2_with fail
        refine (all_calls HD4.out HF4.out HSt.out.quiet.down (by omega)).mono ?_
        rintro e w5 ⟨he, hb⟩
        replace he : e = .returned (.agg #[.string (strOfNums a'.now.a), .string (strOfNums a'.now.b), .string (strOfNums a'.now.c)]) := he
        subst he
        have HD5 := Lib.hid (HD4.out.below hb)
        have HR5 := Lib.hid (Kd.R_below HR4.out hb)
        have HLn := Lib.hid (show (a.safe.hist a.ops).length ≤ 50 by rw [hist_length]; have := HG.out.ops; omega)
        clear hb HD4 HR4
        go_wp2_with ((with_reducible refine gate_builtin (b := .append) (xs := #[.tmp 57, .tmp 60]) rfl ?_); at_builtin; refine Kd.R_append k3 (w0 := w) w.heap.size rfl (.tmp 57) (.tmp 60) 40 38 (.agg #[.string ⟨#[]⟩, .string ⟨#[]⟩, .string ⟨#[]⟩]) 48 rfl Try.underlying40 info3z rfl (by decide) (by decide) _ (a.safe.hist a.ops) a'.now a'.now.cells (fun _ => True) (fun _ => False) rfl rfl (k3_M _ _ _ _) (fun _ hk => hk.elim) (fun _ _ => trivial) HR5.out HD5.out.bel HD5.out.bel.size (by have := HLn.out; omega) ?_; intro v8 w6 ho hb hg _; have HN := Lib.hid (SW.push HG.out HSt.out (fun f => Nat.le_trans (HSm.out f) (by omega)) HD5.out HF4.out HR5.out ho hg hb); clear ho hb hg)
        clear HD5 HR5 HG HSm HF4
        go_roundw
        case rel => exact ⟨i + 1, F', a', by omega, by omega, by go_num, HN⟩
        case measure => simp [intOf]; omega
    · have hc : (¬ (i : Int) < (L.length : Int)) ∨ ((i : Int) < (L.length : Int) ∧ ¬ (i : Int) < 40) := by omega
      have HI := Lib.hid hi40
      obtain ⟨N, hN⟩ : ∃ N, N = a.ops.length := ⟨_, rfl⟩
      have hN40 : N ≤ 40 := by rw [hN]; exact Nat.le_trans (H.out.dk.good H.out.at_).ops hi40
      obtain ⟨M, hM⟩ : ∃ M, M = N + 1 := ⟨_, rfl⟩
      obtain ⟨A8, c8, hv8⟩ := Kd.R_slice H.out.hist
      rw [hist_length, ← hN, ← hM] at hv8
      subst hv8
      have v1 : IntKind.i64.wrap ((M : Int) - 1) = (N : Int) := by rw [IntKind.wrap_i64]; omega
      have hMl : M ≤ 9223372036854775807 := by omega
      obtain ⟨R, hRd⟩ : ∃ R, R = a.safe.crash a.ops K T := ⟨_, rfl⟩
      have HCr := Lib.hid (show a.crash K T = ({ now := R, safe := R, ops := [], down := false, arm := 0, fail := 0, wth := a.wth }, 0) by unfold ADk.crash; rw [if_neg (by omega), Int.toNat_natCast, Int.toNat_natCast, ← hRd])
      have HNN := Lib.hid (And.intro hN hM)
      have HRd := Lib.hid hRd
      have HGd := Lib.hid (H.out.dk.good H.out.at_)
      clear hN hM hRd
      rcases hc with h1 | ⟨h1, h2⟩
      all_goals (
        go_wp2_with fail
        refine (H.out.dk.pending H.out.at_ (m := N) HNN.out.1.symm).mono ?_
        rintro e w3 ⟨rfl, rfl⟩
        go_wp2_with fail
        refine (H.out.dk.crash H.out.at_ K T HCr.out).mono ?_
        rintro e w4 ⟨rfl, F4, hD, hb, hrr, hk, _, hkt⟩
        have HD4 := Lib.hid (hD.mono (ok' := fun _ => True) (fun _ _ => trivial))
        have HF4 := Lib.hid hb
        have HR4 := Lib.hid (R_keptT rfl (by decide) (by decide) H.out.hist hkt)
        clear hD hb hrr hk hkt H
        go_wp2_with fail
        refine (all_calls HD4.out HF4.out rfl (by have := HI.out; omega)).mono ?_
        rintro e w5 ⟨he, hb⟩
        replace he : e = .returned (.agg #[.string (strOfNums R.a), .string (strOfNums R.b), .string (strOfNums R.c)]) := he
        subst he
        have HD5 := Lib.hid (HD4.out.below hb)
        have HR5 := Lib.hid (Kd.R_below HR4.out hb)
        clear hb HD4 HR4
        by_cases hKN : N ≤ K
        · have hmin : (if N < K then (N : Int) else (K : Int)) = (N : Int) := by split <;> omega
          go_upto_region 19 with (first | (refine wl_store 38 (.tmp 11) (.tmp 76) rfl rfl rfl rfl (blk_new _ _) info3s rfl (by simp [Value.oneCell']) ?_; have HB7 := Lib.hid (setRow_heap (w5.alloc (.cells #[.string ⟨#[]⟩, .string ⟨#[]⟩, .string ⟨#[]⟩] 38)) w5.heap.size _ #[.string (strOfNums R.a), .string (strOfNums R.b), .string (strOfNums R.c)] _ _ (blk_new w5 (.cells #[.string ⟨#[]⟩, .string ⟨#[]⟩, .string ⟨#[]⟩] 38))); have HW := Lib.hid (below_setRow (below_alloc (Below.refl w5.heap.size w5) (.cells #[.string ⟨#[]⟩, .string ⟨#[]⟩, .string ⟨#[]⟩] 38)) (Nat.le_refl w5.heap.size) #[.string (strOfNums R.a), .string (strOfNums R.b), .string (strOfNums R.c)]); generalize (w5.alloc (.cells #[.string ⟨#[]⟩, .string ⟨#[]⟩, .string ⟨#[]⟩] 38)).setRow w5.heap.size #[.string (strOfNums R.a), .string (strOfNums R.b), .string (strOfNums R.c)] = W7 at HB7 HW ⊢) | fail)
          obtain ⟨nb, hnb⟩ : ∃ x, x = w5.heap.size := ⟨_, rfl⟩
          rw [← hnb] at HB7 ⊢
          have HD7 := Lib.hid (HD5.out.below HW.out)
          obtain ⟨ad, hA, hrow⟩ := hist_row (Kd.R_below HR5.out HW.out) (by rw [hist_length]; omega)
          subst hA
          have hjN : (a.safe.hist a.ops)[N]? = some R := by
            have hl := HNN.out.1
            rw [hist_at a.ops a.safe N (by omega), hl, List.take_of_length_le (Nat.le_refl _), HRd.out, crash_all (by omega)]
          have HQ2 := Lib.hid (hrow N R hjN).1
          have HQ1 := Lib.hid (fun (W : World) (hW : Below W7.heap.size W7 W) => ld3 (x := R) (blk_below HB7.out hW))
          have HBr := Lib.hid (below_drew1 (Below.refl W7.heap.size W7))
          have HP := Lib.hid (fun (W : World) (hW : Below W7.heap.size W7 W) => (HD7.out.below hW).pending HF4.out (m := 0) rfl)
          have hNM : N < M := by have := HNN.out.2; omega
          have hG := fun (p q : Operand) (W : World) => eq3_guardA p q R R W
          have hE := fun (W : World) => (eq3A R R W).trans (by rw [same3_refl])
          have HBel := Lib.hid HD7.out.bel
          clear hrow hjN hnb HW HD5 HR5 HB7 HD7
          refine start_ (n := 15) (S := fun w' => (Instr.loadAt 38 (.pointer (some ⟨nb, 0, none⟩))).run Try.prog w' = .ok (.agg #[.string (strOfNums R.a), .string (strOfNums R.b), .string (strOfNums R.c)]) w' ∧ (Instr.loadAt 38 (.pointer (some (ad.add (N * 3))))).run Try.prog w' = .ok (.agg #[.string (strOfNums R.a), .string (strOfNums R.b), .string (strOfNums R.c)]) w') (ds := []) #[false, false, false, false, false, false, false, false, false, false, false, false, false, false, false] (by kernel_rfl) rfl rfl ⟨HQ1.out _ HBr.out, HQ2.out _ HBr.out⟩ (fun hHeld => ?_)
          refine with_tabW law_synced.tab19 law_synced.bits19 (fun HT_ HW_ => ?_)
          refine pure_ (i := 1) (N := some 88) (v := ?_) (a' := ?_) #[false, true, false, false, false, false, false, false, false, false, false, false, false, false, false] rfl rfl (any_of HT_.out (by kernel_rfl)) (fun _ _ _ h => h) (Or.inl ⟨by rfl, ?_⟩) ?_ ?_
          rotate_left
          · intro w'
            go_simp
            with_reducible rfl
          rotate_left
          · simp only [Act.put, List.setIfInBounds_toArray, List.set_cons_zero, List.set_cons_succ, i64_w, i32_w]
            rfl
          refine pure_ (i := 2) (N := some 89) (v := ?_) (a' := ?_) #[false, true, true, false, false, false, false, false, false, false, false, false, false, false, false] rfl rfl (any_of HT_.out (by kernel_rfl)) (fun _ _ _ h => h) (Or.inl ⟨by rfl, ?_⟩) ?_ ?_
          rotate_left
          · intro w'
            go_simp
            with_reducible rfl
          rotate_left
          · simp only [Act.put, List.setIfInBounds_toArray, List.set_cons_zero, List.set_cons_succ, i64_w, i32_w]
            rfl
          refine pure_ (i := 3) (N := some 90) (v := ?_) (a' := ?_) #[false, true, true, true, false, false, false, false, false, false, false, false, false, false, false] rfl rfl (any_of HT_.out (by kernel_rfl)) (fun _ _ _ h => h) (Or.inl ⟨by rfl, ?_⟩) ?_ ?_
          rotate_left
          · intro w'
            go_simp
            with_reducible rfl
          rotate_left
          · simp only [Act.put, List.setIfInBounds_toArray, List.set_cons_zero, List.set_cons_succ, i64_w, i32_w]
            rfl
          refine take_ (i := 0) (N := some 87) (v := ?_) (a' := ?_) #[true, true, true, true, false, false, false, false, false, false, false, false, false, false, false] rfl rfl (take_ofW HT_.out HW_.out (by kernel_rfl)) (fun _ _ _ h => h) (Or.inl ⟨by rfl, ?_⟩) hHeld ?_ ?_
          rotate_left
          · rintro w' ⟨s0, s1⟩
            clear s1
            refine Eq.trans (exec_load (by rfl) (by rfl) s0) ?_
            with_reducible rfl
          rotate_left
          · simp only [Act.put, List.setIfInBounds_toArray, List.set_cons_zero, List.set_cons_succ, i64_w, i32_w]
            rfl
          refine take_ (i := 4) (N := some 91) (v := ?_) (a' := ?_) #[true, true, true, true, true, false, false, false, false, false, false, false, false, false, false] rfl rfl (take_ofW HT_.out HW_.out (by kernel_rfl)) (fun _ _ _ h => h) (Or.inl ⟨by rfl, ?_⟩) hHeld ?_ ?_
          rotate_left
          · rintro w' ⟨s0, s1⟩
            clear s0
            refine Eq.trans (exec_load (by rfl) (by rfl) s1) ?_
            with_reducible rfl
          rotate_left
          · simp only [Act.put, List.setIfInBounds_toArray, List.set_cons_zero, List.set_cons_succ, i64_w, i32_w]
            rfl
          refine pure_ (i := 5) (N := some 92) (v := ?_) (a' := ?_) #[true, true, true, true, true, true, false, false, false, false, false, false, false, false, false] rfl rfl (any_of HT_.out (by kernel_rfl)) (fun _ _ _ h => h) (Or.inl ⟨by rfl, ?_⟩) ?_ ?_
          rotate_left
          · intro w'
            go_simp
            with_reducible rfl
          rotate_left
          · simp only [Act.put, List.setIfInBounds_toArray, List.set_cons_zero, List.set_cons_succ, i64_w, i32_w]
            rfl
          refine pure_ (i := 6) (N := some 93) (v := ?_) (a' := ?_) #[true, true, true, true, true, true, true, false, false, false, false, false, false, false, false] rfl rfl (any_of HT_.out (by kernel_rfl)) (fun _ _ _ h => h) (Or.inl ⟨by rfl, ?_⟩) ?_ ?_
          rotate_left
          · intro w'
            go_simp
            with_reducible rfl
          rotate_left
          · simp only [Act.put, List.setIfInBounds_toArray, List.set_cons_zero, List.set_cons_succ, i64_w, i32_w]
            rfl
          refine pure_ (i := 7) (N := some 94) (v := ?_) (a' := ?_) #[true, true, true, true, true, true, true, true, false, false, false, false, false, false, false] rfl rfl (any_of HT_.out (by kernel_rfl)) (fun _ _ _ h => h) (Or.inl ⟨by rfl, ?_⟩) ?_ ?_
          rotate_left
          · intro w'
            go_simp
            with_reducible rfl
          rotate_left
          · simp only [Act.put, List.setIfInBounds_toArray, List.set_cons_zero, List.set_cons_succ, i64_w, i32_w]
            rfl
          refine one_ (i := 8) (N := some 95) #[true, true, true, true, true, true, true, true, true, false, false, false, false, false, false] rfl rfl (one_of HT_.out (by kernel_rfl)) (by decide) (fun K hK => ?_)
          refine goes_ Try.func21 (by kernel_rfl) rfl #[.pointer (some ⟨b, 0, none⟩)] (by rfl) rfl rfl (by simp only [List.map_toArray, List.map_cons, List.map_nil]; rfl) ?_
          with_reducible refine (HP.out _ HBr.out).mono ?_
          rintro e x4 ⟨rfl, rfl⟩
          refine ⟨_, rfl, ?_⟩
          refine hK.out _ _ ⟨HQ1.out _ HBr.out, HQ2.out _ HBr.out⟩ (fun hHeld => ?_)
          clear hK K
          refine norm_ (a' := ?_) ?_ ?_
          rotate_left
          · show Act.put _ (some 95) _ = _
            simp only [Act.put, List.setIfInBounds_toArray, List.set_cons_zero, List.set_cons_succ, i64_w, i32_w]
            rfl
          refine pure_ (i := 9) (N := some 96) (v := ?_) (a' := ?_) #[true, true, true, true, true, true, true, true, true, true, false, false, false, false, false] rfl rfl (any_of HT_.out (by kernel_rfl)) (fun _ _ _ h => h) (Or.inl ⟨by rfl, ?_⟩) ?_ ?_
          rotate_left
          · intro w'
            go_simp
            with_reducible rfl
          rotate_left
          · simp only [Act.put, List.setIfInBounds_toArray, List.set_cons_zero, List.set_cons_succ, i64_w, i32_w]
            rfl
          refine pure_ (i := 10) (N := some 97) (v := ?_) (a' := ?_) #[true, true, true, true, true, true, true, true, true, true, true, false, false, false, false] rfl rfl (any_of HT_.out (by kernel_rfl)) (fun _ _ _ h => h) (Or.inl ⟨by rfl, ?_⟩) ?_ ?_
          rotate_left
          · intro w'
            go_simp
            with_reducible rfl
          rotate_left
          · simp only [Act.put, List.setIfInBounds_toArray, List.set_cons_zero, List.set_cons_succ, i64_w, i32_w]
            rfl
          refine pure_ (i := 11) (N := some 98) (v := ?_) (a' := ?_) #[true, true, true, true, true, true, true, true, true, true, true, true, false, false, false] rfl rfl (any_of HT_.out (by kernel_rfl)) (fun _ _ _ h => h) (Or.inl ⟨by rfl, ?_⟩) ?_ ?_
          rotate_left
          · intro w'
            go_simp
            with_reducible rfl
          rotate_left
          · simp only [Act.put, List.setIfInBounds_toArray, List.set_cons_zero, List.set_cons_succ, i64_w, i32_w]
            rfl
          refine one_ (i := 12) (N := some 99) #[true, true, true, true, true, true, true, true, true, true, true, true, true, false, false] rfl rfl (one_of HT_.out (by kernel_rfl)) (by decide) (fun K hK => ?_)
          refine goes_ Try.func17 (by kernel_rfl) rfl #[] (by rfl) rfl rfl (by simp only [List.map_toArray, List.map_cons, List.map_nil]) ?_
          with_reducible refine (awake_calls _).mono ?_
          rintro e x5 ⟨rfl, hb⟩
          refine ⟨_, rfl, ?_⟩
          replace HBr := Lib.hid (below_then HBr.out HBr.out.size hb)
          clear hb
          refine hK.out _ _ ⟨HQ1.out _ HBr.out, HQ2.out _ HBr.out⟩ (fun hHeld => ?_)
          clear hK K
          refine norm_ (a' := ?_) ?_ ?_
          rotate_left
          · show Act.put _ (some 99) _ = _
            simp only [Act.put, List.setIfInBounds_toArray, List.set_cons_zero, List.set_cons_succ, i64_w, i32_w]
            rfl
          refine pure_ (i := 13) (N := some 100) (v := ?_) (a' := ?_) #[true, true, true, true, true, true, true, true, true, true, true, true, true, true, false] rfl rfl (any_of HT_.out (by kernel_rfl)) (fun _ _ _ h => h) (Or.inl ⟨by rfl, ?_⟩) ?_ ?_
          rotate_left
          · intro w'
            go_simp
            with_reducible rfl
          rotate_left
          · simp only [Act.put, List.setIfInBounds_toArray, List.set_cons_zero, List.set_cons_succ, i64_w, i32_w]
            rfl
          refine pure_ (i := 14) (N := some 6) (v := ?_) (a' := ?_) #[true, true, true, true, true, true, true, true, true, true, true, true, true, true, true] rfl rfl (any_of HT_.out (by kernel_rfl)) (fun _ _ _ h => h) (Or.inl ⟨by rfl, ?_⟩) ?_ ?_
          rotate_left
          · intro w'
            go_simp
            with_reducible rfl
          rotate_left
          · simp only [Act.put, List.setIfInBounds_toArray, List.set_cons_zero, List.set_cons_succ, i64_w, i32_w]
            rfl
          refine done_ (done_of HT_.out (by kernel_rfl)) ?_
          
          go_wp2
          go_ret
          exact ⟨rfl, below_then HBel.out HBel.out.size HBr.out⟩
        · have hKN' : K < N := by omega
          have hmin : (if N < K then (N : Int) else (K : Int)) = (K : Int) := by split <;> omega
          have hne : ((K : Int) == (N : Int)) = false := by simp; omega
          go_upto_region 20 with (first | (refine wl_store 38 (.tmp 11) (.tmp 76) rfl rfl rfl rfl (blk_new _ _) info3s rfl (by simp [Value.oneCell']) ?_; have HB7 := Lib.hid (setRow_heap (w5.alloc (.cells #[.string ⟨#[]⟩, .string ⟨#[]⟩, .string ⟨#[]⟩] 38)) w5.heap.size _ #[.string (strOfNums R.a), .string (strOfNums R.b), .string (strOfNums R.c)] _ _ (blk_new w5 (.cells #[.string ⟨#[]⟩, .string ⟨#[]⟩, .string ⟨#[]⟩] 38))); have HW := Lib.hid (below_setRow (below_alloc (Below.refl w5.heap.size w5) (.cells #[.string ⟨#[]⟩, .string ⟨#[]⟩, .string ⟨#[]⟩] 38)) (Nat.le_refl w5.heap.size) #[.string (strOfNums R.a), .string (strOfNums R.b), .string (strOfNums R.c)]); generalize (w5.alloc (.cells #[.string ⟨#[]⟩, .string ⟨#[]⟩, .string ⟨#[]⟩] 38)).setRow w5.heap.size #[.string (strOfNums R.a), .string (strOfNums R.b), .string (strOfNums R.c)] = W7 at HB7 HW ⊢) | fail)
          obtain ⟨nb, hnb⟩ : ∃ x, x = w5.heap.size := ⟨_, rfl⟩
          rw [← hnb] at HB7 ⊢
          have HD7 := Lib.hid (HD5.out.below HW.out)
          obtain ⟨ad, hA, hrow⟩ := hist_row (Kd.R_below HR5.out HW.out) (by rw [hist_length]; omega)
          subst hA
          have hlN := HNN.out.1
          obtain ⟨o, ho⟩ : ∃ o, a.ops[K]? = some o := ⟨_, List.getElem?_eq_getElem (by omega)⟩
          obtain ⟨y, hy⟩ : ∃ y, y = a.safe.play (a.ops.take K) := ⟨_, rfl⟩
          obtain ⟨z, hz⟩ : ∃ z, z = a.safe.play (a.ops.take (K + 1)) := ⟨_, rfl⟩
          obtain ⟨K1, hK1⟩ : ∃ k, k = K + 1 := ⟨_, rfl⟩
          have HY := Lib.hid (show o.Ok y ∧ z = y.done o o.data.length ∧ R = if o.cut = true then y else y.done o T from ⟨hy ▸ valid_at _ _ _ _ HGd.out.valid ho, by rw [hz, hy]; exact play_next _ _ _ _ ho, by rw [HRd.out, hy]; exact crash_at _ _ _ _ _ ho⟩)
          have HYL := Lib.hid (show AllLe y ∧ AllLe z from ⟨hy ▸ lens_at _ _ _ HGd.out.lens, hz ▸ lens_at _ _ _ HGd.out.lens⟩)
          have HQ2 := Lib.hid (hrow K y (by rw [hy]; exact hist_at _ _ _ (by omega))).1
          have HCz := Lib.hid (hrow K1 z (by rw [hz, hK1]; exact hist_at _ _ _ (by omega))).2
          have HQ1 := Lib.hid (fun (W : World) (hW : Below W7.heap.size W7 W) => ld3 (x := R) (blk_below HB7.out hW))
          have HCR := Lib.hid (fun (W : World) (hW : Below W7.heap.size W7 W) (f : Nat) (hf : f < 3) => cell3 (x := R) (blk_below HB7.out hW) hf)
          have HBr := Lib.hid (below_drew1 (Below.refl W7.heap.size W7))
          have HDu := Lib.hid (fun (W : World) (hW : Below W7.heap.size W7 W) (f : Nat) (hf : f < 3) => (HD7.out.below hW).durable HF4.out f (x := R.get f) (z := 0) (by unfold ADk.durable; rw [if_pos (by omega), Int.toNat_natCast]))
          have hKM : K < M := by have := HNN.out.2; omega
          have hK1M : K1 < M := by have := HNN.out.2; omega
          have v2 : IntKind.i64.wrap ((K : Int) + 1) = (K1 : Int) := by rw [IntKind.wrap_i64]; omega
          have hG := fun (p q : Operand) (x y : Fs) (W : World) => eq3_guardA p q x y W
          have hE := fun (x y : Fs) (W : World) => eq3A x y W
          have HBel := Lib.hid HD7.out.bel
          clear hrow hnb HW HD5 HR5 HB7 HD7 hlN ho hy hz hK1 hKN hKN'
          refine start_ (n := 7) (S := fun w' => (Instr.loadAt 38 (.pointer (some ⟨nb, 0, none⟩))).run Try.prog w' = .ok (.agg #[.string (strOfNums R.a), .string (strOfNums R.b), .string (strOfNums R.c)]) w' ∧ (Instr.loadAt 38 (.pointer (some (ad.add (K * 3))))).run Try.prog w' = .ok (.agg #[.string (strOfNums y.a), .string (strOfNums y.b), .string (strOfNums y.c)]) w') (ds := []) #[false, false, false, false, false, false, false] (by kernel_rfl) rfl rfl ⟨HQ1.out _ HBr.out, HQ2.out _ HBr.out⟩ (fun hHeld => ?_)
          refine with_tabW law_synced.tab20 law_synced.bits20 (fun HT_ HW_ => ?_)
          refine pure_ (i := 1) (N := some 102) (v := ?_) (a' := ?_) #[false, true, false, false, false, false, false] rfl rfl (any_of HT_.out (by kernel_rfl)) (fun _ _ _ h => h) (Or.inl ⟨by rfl, ?_⟩) ?_ ?_
          rotate_left
          · intro w'
            go_simp
            with_reducible rfl
          rotate_left
          · simp only [Act.put, List.setIfInBounds_toArray, List.set_cons_zero, List.set_cons_succ, i64_w, i32_w]
            rfl
          refine pure_ (i := 2) (N := some 103) (v := ?_) (a' := ?_) #[false, true, true, false, false, false, false] rfl rfl (any_of HT_.out (by kernel_rfl)) (fun _ _ _ h => h) (Or.inl ⟨by rfl, ?_⟩) ?_ ?_
          rotate_left
          · intro w'
            go_simp
            with_reducible rfl
          rotate_left
          · simp only [Act.put, List.setIfInBounds_toArray, List.set_cons_zero, List.set_cons_succ, i64_w, i32_w]
            rfl
          refine pure_ (i := 3) (N := some 104) (v := ?_) (a' := ?_) #[false, true, true, true, false, false, false] rfl rfl (any_of HT_.out (by kernel_rfl)) (fun _ _ _ h => h) (Or.inl ⟨by rfl, ?_⟩) ?_ ?_
          rotate_left
          · intro w'
            go_simp
            with_reducible rfl
          rotate_left
          · simp only [Act.put, List.setIfInBounds_toArray, List.set_cons_zero, List.set_cons_succ, i64_w, i32_w]
            rfl
          refine take_ (i := 0) (N := some 101) (v := ?_) (a' := ?_) #[true, true, true, true, false, false, false] rfl rfl (take_ofW HT_.out HW_.out (by kernel_rfl)) (fun _ _ _ h => h) (Or.inl ⟨by rfl, ?_⟩) hHeld ?_ ?_
          rotate_left
          · rintro w' ⟨s0, s1⟩
            clear s1
            refine Eq.trans (exec_load (by rfl) (by rfl) s0) ?_
            with_reducible rfl
          rotate_left
          · simp only [Act.put, List.setIfInBounds_toArray, List.set_cons_zero, List.set_cons_succ, i64_w, i32_w]
            rfl
          refine take_ (i := 4) (N := some 105) (v := ?_) (a' := ?_) #[true, true, true, true, true, false, false] rfl rfl (take_ofW HT_.out HW_.out (by kernel_rfl)) (fun _ _ _ h => h) (Or.inl ⟨by rfl, ?_⟩) hHeld ?_ ?_
          rotate_left
          · rintro w' ⟨s0, s1⟩
            clear s0
            refine Eq.trans (exec_load (by rfl) (by rfl) s1) ?_
            with_reducible rfl
          rotate_left
          · simp only [Act.put, List.setIfInBounds_toArray, List.set_cons_zero, List.set_cons_succ, i64_w, i32_w]
            rfl
          refine pure_ (i := 5) (N := some 106) (v := ?_) (a' := ?_) #[true, true, true, true, true, true, false] rfl rfl (any_of HT_.out (by kernel_rfl)) (fun _ _ _ h => h) (Or.inl ⟨by rfl, ?_⟩) ?_ ?_
          rotate_left
          · intro w'
            go_simp
            with_reducible rfl
          rotate_left
          · simp only [Act.put, List.setIfInBounds_toArray, List.set_cons_zero, List.set_cons_succ, i64_w, i32_w]
            rfl
          refine pure_ (i := 6) (N := some 13) (v := ?_) (a' := ?_) #[true, true, true, true, true, true, true] rfl rfl (any_of HT_.out (by kernel_rfl)) (fun _ _ _ h => h) (Or.inl ⟨by rfl, ?_⟩) ?_ ?_
          rotate_left
          · intro w'
            go_simp
            with_reducible rfl
          rotate_left
          · simp only [Act.put, List.setIfInBounds_toArray, List.set_cons_zero, List.set_cons_succ, i64_w, i32_w]
            rfl
          refine done_ (done_of HT_.out (by kernel_rfl)) ?_
          
          clear hmin hne
          go_wp2
          go_loopw [13, 14] (fun v13 v14 wr => ∃ (p : Bool) (f : Nat), f ≤ 3 ∧ v13 = .bool p ∧ v14 = .int .i64 f ∧ Hid (Below W7.heap.size W7 wr) ∧ Hid (p = false → o.cut = false ∧ f ≤ o.f ∧ o.data ≠ [])) (fun _ v14 _ => 3 - (intOf v14).toNat)
          case atStart => exact ⟨same3 R y, 0, by omega, rfl, rfl, HBr, Lib.hid (part_start HY.out.2.2)⟩
          case round =>
            clear HBr
            obtain ⟨p, f, hf3, rfl, rfl, HBr, HP⟩ := hrel
            cases p with
            | false =>
              have hfo : f ≤ o.f := (HP.out rfl).2.1
              have hof : o.f < 3 := HY.out.1.f
              have hf : f < 3 := by omega
              have hcu : o.cut = false := (HP.out rfl).1
              have hda : o.data ≠ [] := (HP.out rfl).2.2
              obtain ⟨la, hla⟩ : ∃ n, n = (y.get f).length := ⟨_, rfl⟩
              obtain ⟨lb, hlb⟩ : ∃ n, n = (z.get f).length := ⟨_, rfl⟩
              obtain ⟨sm, hsm⟩ : ∃ n, n = la + T := ⟨_, rfl⟩
              obtain ⟨m, hm⟩ : ∃ n, n = min sm lb := ⟨_, rfl⟩
              have HX := Lib.hid (show la = (y.get f).length ∧ lb = (z.get f).length ∧ sm = la + T ∧ m = min sm lb from ⟨hla, hlb, hsm, hm⟩)
              have hsa : (strOfNums (y.get f)).size = la := by rw [strOfNums_size]; exact hla.symm
              have hsb : (strOfNums (z.get f)).size = lb := by rw [strOfNums_size]; exact hlb.symm
              have HBig := Lib.hid (And.intro (HYL.out.1.get f) (HYL.out.2.get f))
              have v3 : IntKind.i64.wrap ((la : Int) + (T : Int)) = (sm : Int) := by rw [IntKind.wrap_i64]; have := HBig.out; have := HKT.out.2; omega
              have hmin2 : (if lb < sm then (lb : Int) else (sm : Int)) = (m : Int) := by split <;> omega
              have hl1 : la ≤ 9223372036854775807 := by have := HBig.out; omega
              have hl2 : lb ≤ 9223372036854775807 := by have := HBig.out; omega
              have HFo := Lib.hid (And.intro hfo (And.intro hcu hda))
              clear hla hlb hsm hm hcu hda hfo hof
              have hfi : (f : Int) < 3 := by omega
              go_upto_region 25 with (first | (refine wl_load 38 (.tmp 117) rfl rfl _ _ rfl (HQ2.out _ HBr.out) ?_) | (refine wl_store 38 (.tmp 15) (.tmp 118) rfl rfl rfl rfl (blk_new _ _) info3s rfl (by simp [Value.oneCell']) ?_; have HB9 := Lib.hid (setRow_heap (wr.alloc (.cells #[.string ⟨#[]⟩, .string ⟨#[]⟩, .string ⟨#[]⟩] 38)) wr.heap.size _ #[.string (strOfNums y.a), .string (strOfNums y.b), .string (strOfNums y.c)] _ _ (blk_new wr (.cells #[.string ⟨#[]⟩, .string ⟨#[]⟩, .string ⟨#[]⟩] 38))); have HW := Lib.hid (below_setRow (below_alloc (Below.refl wr.heap.size wr) (.cells #[.string ⟨#[]⟩, .string ⟨#[]⟩, .string ⟨#[]⟩] 38)) (Nat.le_refl wr.heap.size) #[.string (strOfNums y.a), .string (strOfNums y.b), .string (strOfNums y.c)]); generalize (wr.alloc (.cells #[.string ⟨#[]⟩, .string ⟨#[]⟩, .string ⟨#[]⟩] 38)).setRow wr.heap.size #[.string (strOfNums y.a), .string (strOfNums y.b), .string (strOfNums y.c)] = W9 at HB9 HW ⊢) | fail)
              obtain ⟨nx, hnx⟩ : ∃ x, x = wr.heap.size := ⟨_, rfl⟩
              rw [← hnx] at HB9 ⊢
              have HNx := Lib.hid (show W7.heap.size ≤ nx by rw [hnx]; exact HBr.out.size)
              have HB := Lib.hid (below_then HBr.out HBr.out.size HW.out)
              have HC1 := Lib.hid (fun (W : World) (hW : Below W9.heap.size W9 W) => cell3 (x := y) (blk_below HB9.out hW) hf)
              have HC2 := Lib.hid (fun (W : World) (hW : Below W9.heap.size W9 W) => HCz.out W (below_then HB.out HB.out.size hW) f hf)
              have HBd := Lib.hid (below_drew1 (Below.refl W9.heap.size W9))
              clear hnx HW HBr
              refine start_ (n := 16) (S := fun w' => w'.cell? ⟨nx, f, none⟩ = some (.string (strOfNums (y.get f))) ∧ w'.cell? ((ad.add (K1 * 3)).add f) = some (.string (strOfNums (z.get f)))) (ds := []) #[false, false, false, false, false, false, false, false, false, false, false, false, false, false, false, false] (by kernel_rfl) rfl rfl ⟨HC1.out _ HBd.out, HC2.out _ HBd.out⟩ (fun hHeld => ?_)
              refine with_tabW law_synced.tab25 law_synced.bits25 (fun HT_ HW_ => ?_)
              refine pure_ (i := 0) (N := some 119) (v := ?_) (a' := ?_) #[true, false, false, false, false, false, false, false, false, false, false, false, false, false, false, false] rfl rfl (any_of HT_.out (by kernel_rfl)) (fun _ _ _ h => h) (Or.inl ⟨by rfl, ?_⟩) ?_ ?_
              rotate_left
              · intro w'
                go_simp
                with_reducible rfl
              rotate_left
              · simp only [Act.put, List.setIfInBounds_toArray, List.set_cons_zero, List.set_cons_succ, i64_w, i32_w]
                rfl
              refine pure_ (i := 1) (N := some 120) (v := ?_) (a' := ?_) #[true, true, false, false, false, false, false, false, false, false, false, false, false, false, false, false] rfl rfl (any_of HT_.out (by kernel_rfl)) (fun _ _ _ h => h) (Or.inl ⟨by rfl, ?_⟩) ?_ ?_
              rotate_left
              · intro w'
                go_simp
                with_reducible rfl
              rotate_left
              · simp only [Act.put, List.setIfInBounds_toArray, List.set_cons_zero, List.set_cons_succ, i64_w, i32_w]
                rfl
              refine pure_ (i := 4) (N := some 123) (v := ?_) (a' := ?_) #[true, true, false, false, true, false, false, false, false, false, false, false, false, false, false, false] rfl rfl (any_of HT_.out (by kernel_rfl)) (fun _ _ _ h => h) (Or.inl ⟨by rfl, ?_⟩) ?_ ?_
              rotate_left
              · intro w'
                go_simp
                with_reducible rfl
              rotate_left
              · simp only [Act.put, List.setIfInBounds_toArray, List.set_cons_zero, List.set_cons_succ, i64_w, i32_w]
                rfl
              refine pure_ (i := 6) (N := some 125) (v := ?_) (a' := ?_) #[true, true, false, false, true, false, true, false, false, false, false, false, false, false, false, false] rfl rfl (any_of HT_.out (by kernel_rfl)) (fun _ _ _ h => h) (Or.inl ⟨by rfl, ?_⟩) ?_ ?_
              rotate_left
              · intro w'
                go_simp
                with_reducible rfl
              rotate_left
              · simp only [Act.put, List.setIfInBounds_toArray, List.set_cons_zero, List.set_cons_succ, i64_w, i32_w]
                rfl
              refine pure_ (i := 7) (N := some 126) (v := ?_) (a' := ?_) #[true, true, false, false, true, false, true, true, false, false, false, false, false, false, false, false] rfl rfl (any_of HT_.out (by kernel_rfl)) (fun _ _ _ h => h) (Or.inl ⟨by rfl, ?_⟩) ?_ ?_
              rotate_left
              · intro w'
                go_simp
                with_reducible rfl
              rotate_left
              · simp only [Act.put, List.setIfInBounds_toArray, List.set_cons_zero, List.set_cons_succ, i64_w, i32_w]
                rfl
              refine pure_ (i := 8) (N := some 127) (v := ?_) (a' := ?_) #[true, true, false, false, true, false, true, true, true, false, false, false, false, false, false, false] rfl rfl (any_of HT_.out (by kernel_rfl)) (fun _ _ _ h => h) (Or.inl ⟨by rfl, ?_⟩) ?_ ?_
              rotate_left
              · intro w'
                go_simp
                with_reducible rfl
              rotate_left
              · simp only [Act.put, List.setIfInBounds_toArray, List.set_cons_zero, List.set_cons_succ, i64_w, i32_w]
                rfl
              refine pure_ (i := 9) (N := some 128) (v := ?_) (a' := ?_) #[true, true, false, false, true, false, true, true, true, true, false, false, false, false, false, false] rfl rfl (any_of HT_.out (by kernel_rfl)) (fun _ _ _ h => h) (Or.inl ⟨by rfl, ?_⟩) ?_ ?_
              rotate_left
              · intro w'
                go_simp
                with_reducible rfl
              rotate_left
              · simp only [Act.put, List.setIfInBounds_toArray, List.set_cons_zero, List.set_cons_succ, i64_w, i32_w]
                rfl
              refine pure_ (i := 10) (N := some 129) (v := ?_) (a' := ?_) #[true, true, false, false, true, false, true, true, true, true, true, false, false, false, false, false] rfl rfl (any_of HT_.out (by kernel_rfl)) (fun _ _ _ h => h) (Or.inl ⟨by rfl, ?_⟩) ?_ ?_
              rotate_left
              · intro w'
                go_simp
                with_reducible rfl
              rotate_left
              · simp only [Act.put, List.setIfInBounds_toArray, List.set_cons_zero, List.set_cons_succ, i64_w, i32_w]
                rfl
              refine pure_ (i := 11) (N := some 130) (v := ?_) (a' := ?_) #[true, true, false, false, true, false, true, true, true, true, true, true, false, false, false, false] rfl rfl (any_of HT_.out (by kernel_rfl)) (fun _ _ _ h => h) (Or.inl ⟨by rfl, ?_⟩) ?_ ?_
              rotate_left
              · intro w'
                go_simp
                with_reducible rfl
              rotate_left
              · simp only [Act.put, List.setIfInBounds_toArray, List.set_cons_zero, List.set_cons_succ, i64_w, i32_w]
                rfl
              refine take_ (i := 2) (N := some 121) (v := ?_) (a' := ?_) #[true, true, true, false, true, false, true, true, true, true, true, true, false, false, false, false] rfl rfl (take_ofW HT_.out HW_.out (by kernel_rfl)) (fun _ _ _ h => h) (Or.inl ⟨by rfl, ?_⟩) hHeld ?_ ?_
              rotate_left
              · rintro w' ⟨s0, s1⟩
                go_simp
                with_reducible rfl
              rotate_left
              · simp only [Act.put, List.setIfInBounds_toArray, List.set_cons_zero, List.set_cons_succ, i64_w, i32_w]
                rfl
              refine pure_ (i := 3) (N := some 122) (v := ?_) (a' := ?_) #[true, true, true, true, true, false, true, true, true, true, true, true, false, false, false, false] rfl rfl (any_of HT_.out (by kernel_rfl)) (fun _ _ _ h => h) (Or.inl ⟨by rfl, ?_⟩) ?_ ?_
              rotate_left
              · intro w'
                go_simp
                with_reducible rfl
              rotate_left
              · simp only [Act.put, List.setIfInBounds_toArray, List.set_cons_zero, List.set_cons_succ, i64_w, i32_w]
                rfl
              refine pure_ (i := 5) (N := some 124) (v := ?_) (a' := ?_) #[true, true, true, true, true, true, true, true, true, true, true, true, false, false, false, false] rfl rfl (any_of HT_.out (by kernel_rfl)) (fun _ _ _ h => h) (Or.inl ⟨by rfl, ?_⟩) ?_ ?_
              rotate_left
              · intro w'
                go_simp
                with_reducible rfl
              rotate_left
              · simp only [Act.put, List.setIfInBounds_toArray, List.set_cons_zero, List.set_cons_succ, i64_w, i32_w]
                rfl
              refine take_ (i := 12) (N := some 131) (v := ?_) (a' := ?_) #[true, true, true, true, true, true, true, true, true, true, true, true, true, false, false, false] rfl rfl (take_ofW HT_.out HW_.out (by kernel_rfl)) (fun _ _ _ h => h) (Or.inl ⟨by rfl, ?_⟩) hHeld ?_ ?_
              rotate_left
              · rintro w' ⟨s0, s1⟩
                go_simp
                with_reducible rfl
              rotate_left
              · simp only [Act.put, List.setIfInBounds_toArray, List.set_cons_zero, List.set_cons_succ, i64_w, i32_w]
                rfl
              refine pure_ (i := 13) (N := some 132) (v := ?_) (a' := ?_) #[true, true, true, true, true, true, true, true, true, true, true, true, true, true, false, false] rfl rfl (any_of HT_.out (by kernel_rfl)) (fun _ _ _ h => h) (Or.inl ⟨by rfl, ?_⟩) ?_ ?_
              rotate_left
              · intro w'
                go_simp
                with_reducible rfl
              rotate_left
              · simp only [Act.put, List.setIfInBounds_toArray, List.set_cons_zero, List.set_cons_succ, i64_w, i32_w]
                rfl
              refine pure_ (i := 14) (N := some 133) (v := ?_) (a' := ?_) #[true, true, true, true, true, true, true, true, true, true, true, true, true, true, true, false] rfl rfl (any_of HT_.out (by kernel_rfl)) (fun _ _ _ h => h) (Or.inl ⟨by rfl, ?_⟩) ?_ ?_
              rotate_left
              · intro w'
                go_simp
                with_reducible rfl
              rotate_left
              · simp only [Act.put, List.setIfInBounds_toArray, List.set_cons_zero, List.set_cons_succ, i64_w, i32_w]
                rfl
              refine pure_ (i := 15) (N := some 16) (v := ?_) (a' := ?_) #[true, true, true, true, true, true, true, true, true, true, true, true, true, true, true, true] rfl rfl (any_of HT_.out (by kernel_rfl)) (fun _ _ _ h => h) (Or.inl ⟨by rfl, ?_⟩) ?_ ?_
              rotate_left
              · intro w'
                go_simp
                with_reducible rfl
              rotate_left
              · simp only [Act.put, List.setIfInBounds_toArray, List.set_cons_zero, List.set_cons_succ, i64_w, i32_w]
                rfl
              refine done_ (done_of HT_.out (by kernel_rfl)) ?_
              
              go_upto_region 26 with (fail)
              have HBe := Lib.hid (below_drew1 HBd.out)
              refine start_ (n := 13) (S := fun w' => w'.cell? ⟨nx, f, none⟩ = some (.string (strOfNums (y.get f))) ∧ w'.cell? ((ad.add (K1 * 3)).add f) = some (.string (strOfNums (z.get f)))) (ds := []) #[false, false, false, false, false, false, false, false, false, false, false, false, false] (by kernel_rfl) rfl rfl ⟨HC1.out _ HBe.out, HC2.out _ HBe.out⟩ (fun hHeld => ?_)
              refine with_tabW law_synced.tab26 law_synced.bits26 (fun HT_ HW_ => ?_)
              refine pure_ (i := 0) (N := some 134) (v := ?_) (a' := ?_) #[true, false, false, false, false, false, false, false, false, false, false, false, false] rfl rfl (any_of HT_.out (by kernel_rfl)) (fun _ _ _ h => h) (Or.inl ⟨by rfl, ?_⟩) ?_ ?_
              rotate_left
              · intro w'
                go_simp
                with_reducible rfl
              rotate_left
              · simp only [Act.put, List.setIfInBounds_toArray, List.set_cons_zero, List.set_cons_succ, i64_w, i32_w]
                rfl
              refine pure_ (i := 1) (N := some 135) (v := ?_) (a' := ?_) #[true, true, false, false, false, false, false, false, false, false, false, false, false] rfl rfl (any_of HT_.out (by kernel_rfl)) (fun _ _ _ h => h) (Or.inl ⟨by rfl, ?_⟩) ?_ ?_
              rotate_left
              · intro w'
                go_simp
                with_reducible rfl
              rotate_left
              · simp only [Act.put, List.setIfInBounds_toArray, List.set_cons_zero, List.set_cons_succ, i64_w, i32_w]
                rfl
              refine pure_ (i := 2) (N := some 136) (v := ?_) (a' := ?_) #[true, true, true, false, false, false, false, false, false, false, false, false, false] rfl rfl (any_of HT_.out (by kernel_rfl)) (fun _ _ _ h => h) (Or.inl ⟨by rfl, ?_⟩) ?_ ?_
              rotate_left
              · intro w'
                go_simp
                with_reducible rfl
              rotate_left
              · simp only [Act.put, List.setIfInBounds_toArray, List.set_cons_zero, List.set_cons_succ, i64_w, i32_w]
                rfl
              refine pure_ (i := 3) (N := some 137) (v := ?_) (a' := ?_) #[true, true, true, true, false, false, false, false, false, false, false, false, false] rfl rfl (any_of HT_.out (by kernel_rfl)) (fun _ _ _ h => h) (Or.inl ⟨by rfl, ?_⟩) ?_ ?_
              rotate_left
              · intro w'
                go_simp
                with_reducible rfl
              rotate_left
              · simp only [Act.put, List.setIfInBounds_toArray, List.set_cons_zero, List.set_cons_succ, i64_w, i32_w]
                rfl
              refine pure_ (i := 4) (N := some 138) (v := ?_) (a' := ?_) #[true, true, true, true, true, false, false, false, false, false, false, false, false] rfl rfl (any_of HT_.out (by kernel_rfl)) (fun _ _ _ h => h) (Or.inl ⟨by rfl, ?_⟩) ?_ ?_
              rotate_left
              · intro w'
                go_simp
                with_reducible rfl
              rotate_left
              · simp only [Act.put, List.setIfInBounds_toArray, List.set_cons_zero, List.set_cons_succ, i64_w, i32_w]
                rfl
              refine pure_ (i := 5) (N := some 139) (v := ?_) (a' := ?_) #[true, true, true, true, true, true, false, false, false, false, false, false, false] rfl rfl (any_of HT_.out (by kernel_rfl)) (fun _ _ _ h => h) (Or.inl ⟨by rfl, ?_⟩) ?_ ?_
              rotate_left
              · intro w'
                go_simp
                with_reducible rfl
              rotate_left
              · simp only [Act.put, List.setIfInBounds_toArray, List.set_cons_zero, List.set_cons_succ, i64_w, i32_w]
                rfl
              refine pure_ (i := 8) (N := some 142) (v := ?_) (a' := ?_) #[true, true, true, true, true, true, false, false, true, false, false, false, false] rfl rfl (any_of HT_.out (by kernel_rfl)) (fun _ _ _ h => h) (Or.inl ⟨by rfl, ?_⟩) ?_ ?_
              rotate_left
              · intro w'
                go_simp
                with_reducible rfl
              rotate_left
              · simp only [Act.put, List.setIfInBounds_toArray, List.set_cons_zero, List.set_cons_succ, i64_w, i32_w]
                rfl
              refine pure_ (i := 9) (N := some 143) (v := ?_) (a' := ?_) #[true, true, true, true, true, true, false, false, true, true, false, false, false] rfl rfl (any_of HT_.out (by kernel_rfl)) (fun _ _ _ h => h) (Or.inl ⟨by rfl, ?_⟩) ?_ ?_
              rotate_left
              · intro w'
                go_simp
                with_reducible rfl
              rotate_left
              · simp only [Act.put, List.setIfInBounds_toArray, List.set_cons_zero, List.set_cons_succ, i64_w, i32_w]
                rfl
              refine take_ (i := 6) (N := some 140) (v := ?_) (a' := ?_) #[true, true, true, true, true, true, true, false, true, true, false, false, false] rfl rfl (take_ofW HT_.out HW_.out (by kernel_rfl)) (fun _ _ _ h => h) (Or.inl ⟨by rfl, ?_⟩) hHeld ?_ ?_
              rotate_left
              · rintro w' ⟨s0, s1⟩
                go_simp
                with_reducible rfl
              rotate_left
              · simp only [Act.put, List.setIfInBounds_toArray, List.set_cons_zero, List.set_cons_succ, i64_w, i32_w]
                rfl
              refine pure_ (i := 7) (N := some 141) (v := ?_) (a' := ?_) #[true, true, true, true, true, true, true, true, true, true, false, false, false] rfl rfl (any_of HT_.out (by kernel_rfl)) (fun _ _ _ h => h) (Or.inl ⟨by rfl, ?_⟩) ?_ ?_
              rotate_left
              · intro w'
                go_simp
                with_reducible rfl
              rotate_left
              · simp only [Act.put, List.setIfInBounds_toArray, List.set_cons_zero, List.set_cons_succ, i64_w, i32_w]
                rfl
              refine take_ (i := 10) (N := some 144) (v := ?_) (a' := ?_) #[true, true, true, true, true, true, true, true, true, true, true, false, false] rfl rfl (take_ofW HT_.out HW_.out (by kernel_rfl)) (fun _ _ _ h => h) (Or.inl ⟨by rfl, ?_⟩) hHeld ?_ ?_
              rotate_left
              · rintro w' ⟨s0, s1⟩
                go_simp
                with_reducible rfl
              rotate_left
              · simp only [Act.put, List.setIfInBounds_toArray, List.set_cons_zero, List.set_cons_succ, i64_w, i32_w]
                rfl
              refine pure_ (i := 11) (N := some 145) (v := ?_) (a' := ?_) #[true, true, true, true, true, true, true, true, true, true, true, true, false] rfl rfl (any_of HT_.out (by kernel_rfl)) (fun _ _ _ h => h) (Or.inl ⟨by rfl, ?_⟩) ?_ ?_
              rotate_left
              · intro w'
                go_simp
                with_reducible rfl
              rotate_left
              · simp only [Act.put, List.setIfInBounds_toArray, List.set_cons_zero, List.set_cons_succ, i64_w, i32_w]
                rfl
              refine pure_ (i := 12) (N := some 146) (v := ?_) (a' := ?_) #[true, true, true, true, true, true, true, true, true, true, true, true, true] rfl rfl (any_of HT_.out (by kernel_rfl)) (fun _ _ _ h => h) (Or.inl ⟨by rfl, ?_⟩) ?_ ?_
              rotate_left
              · intro w'
                go_simp
                with_reducible rfl
              rotate_left
              · simp only [Act.put, List.setIfInBounds_toArray, List.set_cons_zero, List.set_cons_succ, i64_w, i32_w]
                rfl
              refine done_ (done_of HT_.out (by kernel_rfl)) ?_
              
              by_cases hfo : f = o.f
              · have hlab : (la : Int) < (lb : Int) := by have := step_lt HY.out.1 HY.out.2.1 HFo.out.2.1 HFo.out.2.2; rw [← hfo] at this; have := HX.out.1; have := HX.out.2.1; omega
                have hlab' : la < lb := by omega
                have HRy := Lib.hid (step_part HY.out.1 HY.out.2.1 HY.out.2.2 HFo.out.2.1 T rfl)
                have hsl : ∀ W : World, (Instr.slice 9 (.string (strOfNums (z.get f))) none (some (.int .i64 (m : Int))) none).run Try.prog W = .ok (.string (strOfNums ((z.get f).take m))) W := fun W => by
                  rw [run_slice_string_h (P := Try.prog) W 9 (strOfNums (z.get f)) Try.underlying9 .i64 (m : Int) (by omega) (by rw [strOfNums_size]; have := HX.out; omega), Int.toNat_natCast, ext_take]
                have hRn := Lib.hid (show R = y.set f ((z.get f).take m) by rw [HRy.out, ← hfo, HX.out.2.2.2, HX.out.2.2.1, HX.out.1, HX.out.2.1])
                have hcz := HC2.out _ HBe.out
                have hcx := HC1.out _ HBe.out
                have hzx := blk_frozen (blk_below HB9.out HBe.out) f
                have HBx := Lib.hid (blk_drew (blk_drew (blk_set HB9.out f (.string (strOfNums ((z.get f).take m))))))
                have HBf := Lib.hid (((HB.out).setCell (p := ⟨nx, f, none⟩) HNx.out (.string (strOfNums ((z.get f).take m)))).drew.drew)
                have HXs := Lib.hid (cells_set y hf ((z.get f).take m))
                clear HC1 HC2 hfo
                go_upto_region 28 with (fail)
                generalize (W9.setCell ⟨nx, f, none⟩ (.string (strOfNums ((z.get f).take m)))).drew.drew = Wx at HBx HBf ⊢
                have HLx := Lib.hid (ld3 (x := R) (by rw [hRn.out, ← HXs.out]; exact HBx.out))
                have hsr : same3 R R = true := same3_refl R
                clear hcz hcx hzx HBx
                go_wp2_with (first | (refine wl_load 38 (.tmp 11) rfl rfl _ _ rfl (HQ1.out _ HBf.out) ?_) | (refine wl_load 38 (.tmp 15) rfl rfl _ _ rfl HLx.out ?_) | fail)
                go_roundw
                case rel => exact ⟨true, f + 1, by omega, rfl, by go_num, HBf, Lib.hid (fun h => by cases h)⟩
                case measure => simp [intOf]; omega
              · have hlab : ¬ (la : Int) < (lb : Int) := by have := step_same HY.out.1 HY.out.2.1 f hf hfo; have := HX.out.1; have := HX.out.2.1; simp_all
                have hlab' : ¬ la < lb := by omega
                go_wp2
                go_roundw
                case rel => exact ⟨false, f + 1, by omega, rfl, by go_num, Lib.hid (below_then HB.out HB.out.size HBe.out), Lib.hid (fun _ => ⟨HFo.out.2.1, by have := HFo.out.1; omega, HFo.out.2.2⟩)⟩
                case measure => simp [intOf]; omega
            | true =>
              have HF3 := Lib.hid hf3
              have hff : (f : Int) < 3 ∨ ¬ (f : Int) < 3 := by omega
              rcases hff with hff | hff
              all_goals (
                go_wp2
                go_loopw [13, 17] (fun v13 v17 wq => ∃ g : Nat, g ≤ 3 ∧ v13 = .bool true ∧ v17 = .int .i64 g ∧ Hid (Below W7.heap.size W7 wq)) (fun _ v17 _ => 3 - (intOf v17).toNat)
                case atStart => exact ⟨0, by omega, rfl, rfl, HBr⟩
                case round =>
                  clear HBr HP
                  obtain ⟨g, hg3, rfl, rfl, HBr⟩ := hrel
                  by_cases hg : g < 3
                  · have hgi : (g : Int) < 3 := by omega
                    go_wp2_with fail
                    refine (HDu.out _ HBr.out g hg).mono ?_
                    rintro e w8 ⟨Ad, cd, rfl, hr8, hb8⟩
                    have HB8 := Lib.hid (below_then HBr.out HBr.out.size hb8)
                    have HR8 := Lib.hid hr8
                    clear hr8 hb8 HBr
                    go_upto_region 33 with (fail)
                    have HS := Lib.hid (fun (W : World) (hW : Below w8.heap.size w8 W) => (⟨str_of (Kd.R_below HR8.out hW) rfl, HCR.out W (below_then HB8.out HB8.out.size hW) g hg⟩ : (convert 24 9 (.slice Ad (R.get g).length cd)).run Try.prog W = .ok (.string (strOfNums (R.get g))) W ∧ W.cell? ⟨nb, g, none⟩ = some (.string (strOfNums (R.get g)))))
                    have HBd := Lib.hid (below_drew1 (Below.refl w8.heap.size w8))
                    refine start_ (n := 14) (S := fun w' => (convert 24 9 (.slice Ad (R.get g).length cd)).run Try.prog w' = .ok (.string (strOfNums (R.get g))) w' ∧ w'.cell? ⟨nb, g, none⟩ = some (.string (strOfNums (R.get g)))) (ds := []) #[false, false, false, false, false, false, false, false, false, false, false, false, false, false] (by kernel_rfl) rfl rfl ⟨(HS.out _ HBd.out).1, (HS.out _ HBd.out).2⟩ (fun hHeld => ?_)
                    refine with_tabW law_synced.tab33 law_synced.bits33 (fun HT_ HW_ => ?_)
                    refine pure_ (i := 0) (N := some 171) (v := ?_) (a' := ?_) #[true, false, false, false, false, false, false, false, false, false, false, false, false, false] rfl rfl (any_of HT_.out (by kernel_rfl)) (fun _ _ _ h => h) (Or.inl ⟨by rfl, ?_⟩) ?_ ?_
                    rotate_left
                    · intro w'
                      go_simp
                      with_reducible rfl
                    rotate_left
                    · simp only [Act.put, List.setIfInBounds_toArray, List.set_cons_zero, List.set_cons_succ, i64_w, i32_w]
                      rfl
                    refine pure_ (i := 1) (N := some 172) (v := ?_) (a' := ?_) #[true, true, false, false, false, false, false, false, false, false, false, false, false, false] rfl rfl (any_of HT_.out (by kernel_rfl)) (fun _ _ _ h => h) (Or.inl ⟨by rfl, ?_⟩) ?_ ?_
                    rotate_left
                    · intro w'
                      go_simp
                      with_reducible rfl
                    rotate_left
                    · simp only [Act.put, List.setIfInBounds_toArray, List.set_cons_zero, List.set_cons_succ, i64_w, i32_w]
                      rfl
                    refine pure_ (i := 2) (N := some 173) (v := ?_) (a' := ?_) #[true, true, true, false, false, false, false, false, false, false, false, false, false, false] rfl rfl (any_of HT_.out (by kernel_rfl)) (fun _ _ _ h => h) (Or.inl ⟨by rfl, ?_⟩) ?_ ?_
                    rotate_left
                    · intro w'
                      go_simp
                      with_reducible rfl
                    rotate_left
                    · simp only [Act.put, List.setIfInBounds_toArray, List.set_cons_zero, List.set_cons_succ, i64_w, i32_w]
                      rfl
                    refine pure_ (i := 3) (N := some 174) (v := ?_) (a' := ?_) #[true, true, true, true, false, false, false, false, false, false, false, false, false, false] rfl rfl (any_of HT_.out (by kernel_rfl)) (fun _ _ _ h => h) (Or.inl ⟨by rfl, ?_⟩) ?_ ?_
                    rotate_left
                    · intro w'
                      go_simp
                      with_reducible rfl
                    rotate_left
                    · simp only [Act.put, List.setIfInBounds_toArray, List.set_cons_zero, List.set_cons_succ, i64_w, i32_w]
                      rfl
                    refine pure_ (i := 4) (N := some 175) (v := ?_) (a' := ?_) #[true, true, true, true, true, false, false, false, false, false, false, false, false, false] rfl rfl (any_of HT_.out (by kernel_rfl)) (fun _ _ _ h => h) (Or.inl ⟨by rfl, ?_⟩) ?_ ?_
                    rotate_left
                    · intro w'
                      go_simp
                      with_reducible rfl
                    rotate_left
                    · simp only [Act.put, List.setIfInBounds_toArray, List.set_cons_zero, List.set_cons_succ, i64_w, i32_w]
                      rfl
                    refine pure_ (i := 5) (N := some 176) (v := ?_) (a' := ?_) #[true, true, true, true, true, true, false, false, false, false, false, false, false, false] rfl rfl (any_of HT_.out (by kernel_rfl)) (fun _ _ _ h => h) (Or.inl ⟨by rfl, ?_⟩) ?_ ?_
                    rotate_left
                    · intro w'
                      go_simp
                      with_reducible rfl
                    rotate_left
                    · simp only [Act.put, List.setIfInBounds_toArray, List.set_cons_zero, List.set_cons_succ, i64_w, i32_w]
                      rfl
                    refine pure_ (i := 6) (N := some 177) (v := ?_) (a' := ?_) #[true, true, true, true, true, true, true, false, false, false, false, false, false, false] rfl rfl (any_of HT_.out (by kernel_rfl)) (fun _ _ _ h => h) (Or.inl ⟨by rfl, ?_⟩) ?_ ?_
                    rotate_left
                    · intro w'
                      go_simp
                      with_reducible rfl
                    rotate_left
                    · simp only [Act.put, List.setIfInBounds_toArray, List.set_cons_zero, List.set_cons_succ, i64_w, i32_w]
                      rfl
                    refine pure_ (i := 8) (N := some 179) (v := ?_) (a' := ?_) #[true, true, true, true, true, true, true, false, true, false, false, false, false, false] rfl rfl (any_of HT_.out (by kernel_rfl)) (fun _ _ _ h => h) (Or.inl ⟨by rfl, ?_⟩) ?_ ?_
                    rotate_left
                    · intro w'
                      go_simp
                      with_reducible rfl
                    rotate_left
                    · simp only [Act.put, List.setIfInBounds_toArray, List.set_cons_zero, List.set_cons_succ, i64_w, i32_w]
                      rfl
                    refine pure_ (i := 9) (N := some 180) (v := ?_) (a' := ?_) #[true, true, true, true, true, true, true, false, true, true, false, false, false, false] rfl rfl (any_of HT_.out (by kernel_rfl)) (fun _ _ _ h => h) (Or.inl ⟨by rfl, ?_⟩) ?_ ?_
                    rotate_left
                    · intro w'
                      go_simp
                      with_reducible rfl
                    rotate_left
                    · simp only [Act.put, List.setIfInBounds_toArray, List.set_cons_zero, List.set_cons_succ, i64_w, i32_w]
                      rfl
                    refine take_ (i := 7) (N := some 178) (v := ?_) (a' := ?_) #[true, true, true, true, true, true, true, true, true, true, false, false, false, false] rfl rfl (take_ofW HT_.out HW_.out (by kernel_rfl)) (fun _ _ _ h => h) (Or.inl ⟨by rfl, ?_⟩) hHeld ?_ ?_
                    rotate_left
                    · rintro w' ⟨s0, s1⟩
                      go_simp
                      with_reducible rfl
                    rotate_left
                    · simp only [Act.put, List.setIfInBounds_toArray, List.set_cons_zero, List.set_cons_succ, i64_w, i32_w]
                      rfl
                    refine take_ (i := 10) (N := some 181) (v := ?_) (a' := ?_) #[true, true, true, true, true, true, true, true, true, true, true, false, false, false] rfl rfl (take_ofW HT_.out HW_.out (by kernel_rfl)) (fun _ _ _ h => h) (Or.inl ⟨by rfl, ?_⟩) hHeld ?_ ?_
                    rotate_left
                    · rintro w' ⟨s0, s1⟩
                      go_simp
                      with_reducible rfl
                    rotate_left
                    · simp only [Act.put, List.setIfInBounds_toArray, List.set_cons_zero, List.set_cons_succ, i64_w, i32_w]
                      rfl
                    refine pure_ (i := 11) (N := some 182) (v := ?_) (a' := ?_) #[true, true, true, true, true, true, true, true, true, true, true, true, false, false] rfl rfl (any_of HT_.out (by kernel_rfl)) (fun _ _ _ h => h) (Or.inl ⟨by rfl, ?_⟩) ?_ ?_
                    rotate_left
                    · intro w'
                      go_simp
                      with_reducible rfl
                    rotate_left
                    · simp only [Act.put, List.setIfInBounds_toArray, List.set_cons_zero, List.set_cons_succ, i64_w, i32_w]
                      rfl
                    refine pure_ (i := 12) (N := some 183) (v := ?_) (a' := ?_) #[true, true, true, true, true, true, true, true, true, true, true, true, true, false] rfl rfl (any_of HT_.out (by kernel_rfl)) (fun _ _ _ h => h) (Or.inl ⟨by rfl, ?_⟩) ?_ ?_
                    rotate_left
                    · intro w'
                      go_simp
                      with_reducible rfl
                    rotate_left
                    · simp only [Act.put, List.setIfInBounds_toArray, List.set_cons_zero, List.set_cons_succ, i64_w, i32_w]
                      rfl
                    refine pure_ (i := 13) (N := some 13) (v := ?_) (a' := ?_) #[true, true, true, true, true, true, true, true, true, true, true, true, true, true] rfl rfl (any_of HT_.out (by kernel_rfl)) (fun _ _ _ h => h) (Or.inl ⟨by rfl, ?_⟩) ?_ ?_
                    rotate_left
                    · intro w'
                      go_simp
                      with_reducible rfl
                    rotate_left
                    · simp only [Act.put, List.setIfInBounds_toArray, List.set_cons_zero, List.set_cons_succ, i64_w, i32_w]
                      rfl
                    refine done_ (done_of HT_.out (by kernel_rfl)) ?_
                    
                    go_wp2
                    go_roundw
                    case rel => exact ⟨g + 1, by omega, rfl, by go_num, Lib.hid (below_then HB8.out HB8.out.size HBd.out)⟩
                    case measure => simp [intOf]; omega
                  · have hgi : ¬ (g : Int) < 3 := by omega
                    go_wp2_with fail
                    refine (awake_calls _).mono ?_
                    rintro e w9 ⟨rfl, hb9⟩
                    have HB9 := Lib.hid (below_then HBr.out HBr.out.size hb9)
                    clear hb9
                    go_wp2
                    go_ret
                    exact ⟨rfl, below_then HBel.out HBel.out.size HB9.out⟩))
end Go.Proofs.Ytfggcdpipolahaa.PF
