/- FileCrashes: a crash that keeps all is a sync, one that keeps nothing takes all back. -/
import Derived.Test.YtfggcdpipolahaaFiEq3
set_option linter.unusedVariables false
set_option linter.unusedSimpArgs false
namespace Go.Proofs.Ytfggcdpipolahaa.PF
open Go.RowKit Go.Proofs.YtfggcdpipolahaaW.PrintWords Go.Proofs.YtfggcdpipolahaaW.PrintLast Go.Proofs.YtfggcdpipolahaaW.PrintMore
attribute [local go_sem] max2_int min2_int max_two min_two
def strsC (x : Fs) : Array Value := #[.string (strOfNums x.a), .string (strOfNums x.b), .string (strOfNums x.c)]
structure CW (w : World) (b sb i : Nat) (F : Nat → Option ADk) (a : ADk) (wr : World) : Prop where
  dk : Disks w wr (fun _ => True) F i
  at_ : F b = some a
  quiet : Quiet a
  small : Small (50 * i) a.now
  box : wr.heap[sb]? = some (.cells (strsC a.safe) 38 (0, 0))
theorem crash_none : ∀ (os : List AOp) (x : Fs), x.crash os 0 0 = x
  | [], _ => rfl
  | o :: os, x => by
    unfold Fs.crash
    split
    · rfl
    · rename_i hc
      unfold Fs.done
      rw [if_neg hc, List.take_zero, List.append_nil]
      unfold Fs.set Fs.get
      split
      · rfl
      · split <;> rfl
theorem ld3 {w : World} {g : Nat} {x : Fs} (h : w.heap[g]? = some (.cells (strsC x) 38 (0, 0))) : (Instr.loadAt 38 (.pointer (some ⟨g, 0, none⟩))).run Try.prog w = .ok (.agg #[.string (strOfNums x.a), .string (strOfNums x.b), .string (strOfNums x.c)]) w := by
  have hld := run_loadVar_row (P := Try.prog) w g 38 38 (strsC x) (0, 0) _ h Try.underlying38 rfl info3s
  simp only [Instr.loadAt, Instr.sureAddr, Sem.run_bind, Sem.run_pure, Result.andThen_ok, hld]
  rfl
theorem small0 (m : Nat) : Small m ADk.new.now := by
  intro f
  unfold Fs.get
  split
  · exact Nat.zero_le _
  · split <;> exact Nat.zero_le _
theorem crash_keep_all {n : Nat} {a : ADk} (h : Good n a) (hn : a.ops.length ≤ 100) : a.crash 100 0 = ({ now := a.now, safe := a.now, ops := [], down := false, arm := 0, fail := 0, wth := a.wth }, 0) := by
  unfold ADk.crash
  rw [if_neg (by decide), crash_all (by show a.ops.length ≤ 100; exact hn), ← h.now]
theorem crash_keep_none (a : ADk) : a.crash 0 0 = ({ now := a.safe, safe := a.safe, ops := [], down := false, arm := 0, fail := 0, wth := a.wth }, 0) := by
  unfold ADk.crash
  rw [if_neg (by decide)]
  show (({ now := a.safe.crash a.ops 0 0, safe := a.safe.crash a.ops 0 0, ops := [], down := false, arm := 0, fail := 0, wth := a.wth } : ADk), (0 : Int)) = _
  rw [crash_none]
def law_crashes.T14 : Bool × List (List Nat × List Nat) := (true, [([], []), ([], []), ([0, 1], [0, 1]), ([], []), ([2, 3], [2, 3]), ([4], [4]), ([5], [5]), ([6], [6]), ([7, 6, 6], [6, 7]), ([6], [6]), ([8, 9, 6], [6, 8, 9]), ([6, 10], [6, 10]), ([11, 8], [11]), ([12], [12]), ([13, 12, 12], [12, 13]), ([12], [12]), ([14, 15, 12], [12, 14, 15]), ([12, 16], [12, 16]), ([17, 14], [17]), ([18], [18]), ([19, 18, 18], [18, 19]), ([18], [18]), ([20, 21, 18], [18, 20, 21]), ([18, 22], [18, 22]), ([23, 20], [23]), ([24], [24]), ([25, 24, 24], [24, 25]), ([24], [24]), ([26, 27, 24], [24, 26, 27]), ([24, 28], [24, 28]), ([29, 26], [29]), ([30, 30], [30]), ([30, 31], [30, 31]), ([32, 31, 0, 1, 2, 3, 4, 5, 6, 7, 8, 9, 10, 11, 12, 13, 14, 15, 16, 17, 18, 19, 20, 21, 22, 23, 24, 25, 26, 27, 28, 29, 30, 31, 32], [32])])
def law_crashes.B14 : List Nat := [0, 0, 3, 0, 15, 31, 63, 127, 255, 127, 1023, 2047, 4095, 8191, 16383, 8191, 65535, 131071, 262143, 524287, 1048575, 524287, 4194303, 8388607, 16777215, 33554431, 67108863, 33554431, 268435455, 536870911, 1073741823, 2147483647, 4294967295, 8589934591]
theorem law_crashes.tab14 : rtab .any (opsOf Try.f5 14) = law_crashes.T14 := by kernel_rfl
theorem law_crashes.bits14 : waitsOk law_crashes.T14.2 law_crashes.B14 = true := by kernel_rfl
set_option maxRecDepth 100000 in
set_option maxHeartbeats 8000000 in
theorem crashes_law (A : Option Addr) (c : Nat) (L : List Int) (w : World) (hr : Kd.C (Kd.int .i64) w A L.length L) (hc : L.length ≤ c) :
    Calls Try.prog 5 #[.slice A L.length c] w fun e w' => e = .returned (.bool true) ∧ Below w.heap.size w w' := by
  have HL := Lib.hid hr
  have hln : L.length ≤ 9223372036854775807 := hr.2.1
  clear hr hc
  have HD := Lib.hid (Disks.none_ w 0)
  go_enter Try.func5, Try.ntmps5
  go_wp2_with fail
  refine (HD.out.new).mono ?_
  rintro e w1 ⟨b, rfl, F1, hD, hb, hr, hk⟩
  have HF1 := Lib.hid hb
  replace HD := Lib.hid (hD.mono (ok' := fun _ => True) (fun _ _ => trivial))
  clear hD hb hr hk
  go_wp2_with fail
  refine (all_calls HD.out HF1.out rfl (by decide)).mono ?_
  rintro e w2 ⟨rfl, hb⟩
  replace HD := Lib.hid (HD.out.below hb)
  clear hb
  go_upto_region 4 with (first | (refine wl_store 38 (.tmp 4) (.tmp 16) rfl rfl rfl rfl (blk_new _ _) info3s rfl (by simp [Value.oneCell']) ?_) | fail)
  obtain ⟨sb, hsb⟩ : ∃ x, x = w2.heap.size := ⟨_, rfl⟩
  have H : Hid (CW w b sb 0 F1 ADk.new ((w2.alloc (.cells #[.string ⟨#[]⟩, .string ⟨#[]⟩, .string ⟨#[]⟩] 38)).setRow w2.heap.size (strsC ADk.new.now))) := Lib.hid ⟨HD.out.below (below_setRow (below_alloc (Below.refl _ _) _) (Nat.le_refl _) _), HF1.out, ⟨rfl, rfl, rfl⟩, small0 0, by rw [hsb]; exact setRow_heap _ _ _ _ _ _ (blk_new _ _)⟩
  have HBl := Lib.hid (show w.heap.size ≤ sb by rw [hsb]; exact HD.out.bel.size)
  rw [← hsb] at H ⊢
  change Hid (CW w b sb 0 F1 ADk.new ((w2.alloc (.cells #[.string ⟨#[]⟩, .string ⟨#[]⟩, .string ⟨#[]⟩] 38)).setRow sb #[.string (strOfNums ADk.new.now.a), .string (strOfNums ADk.new.now.b), .string (strOfNums ADk.new.now.c)])) at H
  generalize (w2.alloc (.cells #[.string ⟨#[]⟩, .string ⟨#[]⟩, .string ⟨#[]⟩] 38)).setRow sb #[.string (strOfNums ADk.new.now.a), .string (strOfNums ADk.new.now.b), .string (strOfNums ADk.new.now.c)] = W at H ⊢
  clear hsb HD HF1
  go_loopw [5] (fun v5 wr => ∃ (i : Nat) (F : Nat → Option ADk) (a : ADk), i ≤ L.length ∧ i ≤ 30 ∧ v5 = .int .i64 i ∧ Hid (CW w b sb i F a wr)) (fun v5 _ => 30 - (intOf v5).toNat)
  case atStart => exact ⟨0, F1, ADk.new, Nat.zero_le _, by omega, rfl, H⟩
  case round =>
    clear H
    obtain ⟨i, F, a, hiL, hi30, rfl, H⟩ := hrel
    by_cases hlt : i < L.length ∧ i < 30
    · obtain ⟨h1, h2⟩ := hlt
      have h3 : (i : Int) < 30 := by omega
      obtain ⟨ad, e1, hx⟩ := Kd.at_int HL.out (i : Int) (by omega) (by omega)
      subst e1
      replace hx := (H.out.dk.bel.cell (World.block_lt_of_cell? w _ hx)).trans hx
      rw [Int.toNat_natCast] at hx
      generalize rd L (i : Int) = z at hx
      obtain ⟨k, hk, hpk⟩ := pick_any z 1000003 (by decide) (by decide)
      have HPK := Lib.hid (show ∀ w, Calls Try.prog 18 #[.int .i64 z, .int .i64 1000003] w fun e w' => e = .returned (.int .i64 k) ∧ w = w' from hpk)
      have HKb := Lib.hid hk
      clear hpk hk
      by_cases h7 : k % 7 = 0
      · have e7 : (k : Int) % 7 = 0 := by omega
        go_wp2_with fail
        refine (HPK.out _).mono ?_
        rintro e w3 ⟨rfl, rfl⟩
        go_wp2_with fail
        refine (H.out.dk.sync H.out.at_ (quiet_sync H.out.quiet)).mono ?_
        rintro e w4 ⟨rfl, F', hD, hb, hrr, hk, _, hkt⟩
        have HD4 := Lib.hid (hD.mono (ok' := fun _ => True) (fun _ _ => trivial))
        have HF4 := Lib.hid hb
        have HBx := Lib.hid (hkt _ _ _ (by decide) (by decide) H.out.box)
        clear hD hb hrr hk hkt
        go_wp2_with fail
        refine (all_calls HD4.out HF4.out H.out.quiet.down (by omega)).mono ?_
        rintro e w5 ⟨rfl, hb⟩
        have HD5 := Lib.hid (HD4.out.below hb)
        replace HBx := Lib.hid (blk_below HBx.out hb)
        clear hb
        have HSb := Lib.hid (HBl.out)
        go_wp2_with (first | (refine wl_store 38 (.tmp 4) (.tmp 38) rfl rfl rfl rfl HBx.out info3s rfl (by simp [Value.oneCell']) ?_) | fail)
        go_roundw
        case rel => exact ⟨i + 1, F', { a with safe := a.now, ops := [] }, by omega, by omega, by go_num, Lib.hid ⟨(HD5.out.setBox HBl.out HBx.out (by decide) (by decide) (by decide) _).le (Nat.le_succ i), HF4.out, ⟨H.out.quiet.down, H.out.quiet.arm, H.out.quiet.fail⟩, fun f => Nat.le_trans (H.out.small f) (by omega), setRow_heap _ _ _ _ _ _ HBx.out⟩⟩
        case measure => simp [intOf]; omega
      · have e7 : ¬ (k : Int) % 7 = 0 := by omega
        have e7' : (((k : Int) % 7) == 0) = false := by simp; omega
        obtain ⟨q, hq⟩ : ∃ q, q = k / 7 := ⟨_, rfl⟩
        have e8 : (k : Int) / 7 = (q : Int) := by omega
        have hq3 : q ≤ 1000003 := by have := HKb.out; omega
        clear hq
        go_wp2_with fail
        refine (HPK.out _).mono ?_
        rintro e w3 ⟨rfl, rfl⟩
        go_wp2_with fail
        refine (call_calls H.out.dk H.out.at_ H.out.quiet (fun f => Nat.le_trans (H.out.small f) (by omega)) (by omega) q i hq3 (by omega)).mono ?_
        rintro e w4 ⟨rfl, a', o, F', hst, hdl, hD, hb, hkt⟩
        have HN := Lib.hid (show CW w b sb (i + 1) F' a' w4 from ⟨hD, hb, hst.quiet, fun f => Nat.le_trans (hst.small H.out.small hdl f) (by omega), by rw [hst.safe]; exact hkt _ _ _ (by decide) (by decide) H.out.box⟩)
        clear hst hdl hD hb hkt
        go_wp2
        go_roundw
        case rel => exact ⟨i + 1, F', a', by omega, by omega, by go_num, HN⟩
        case measure => simp [intOf]; omega
    · have hc : (¬ (i : Int) < (L.length : Int)) ∨ ((i : Int) < (L.length : Int) ∧ ¬ (i : Int) < 30) := by omega
      have HI := Lib.hid hi30
      rcases hc with h1 | ⟨h1, h2⟩
      all_goals (
        go_wp2_with fail
        refine (all_calls H.out.dk H.out.at_ H.out.quiet.down (by have := HI.out; omega)).mono ?_
        rintro e w3 ⟨rfl, hb⟩
        have HD3 := Lib.hid (H.out.dk.below hb)
        have HS3 := Lib.hid (blk_below H.out.box hb)
        have HAt := Lib.hid H.out.at_
        have HQ := Lib.hid H.out.quiet
        clear hb H
        go_wp2_with (first | (refine wl_store 38 (.tmp 7) (.tmp 45) rfl rfl rfl rfl (blk_new _ _) info3s rfl (by simp [Value.oneCell']) ?_; have HB7 := Lib.hid (setRow_heap (w3.alloc (.cells #[.string ⟨#[]⟩, .string ⟨#[]⟩, .string ⟨#[]⟩] 38)) w3.heap.size _ #[.string (strOfNums a.now.a), .string (strOfNums a.now.b), .string (strOfNums a.now.c)] _ _ (blk_new w3 (.cells #[.string ⟨#[]⟩, .string ⟨#[]⟩, .string ⟨#[]⟩] 38))); have HW := Lib.hid (below_setRow (below_alloc (Below.refl w3.heap.size w3) (.cells #[.string ⟨#[]⟩, .string ⟨#[]⟩, .string ⟨#[]⟩] 38)) (Nat.le_refl w3.heap.size) #[.string (strOfNums a.now.a), .string (strOfNums a.now.b), .string (strOfNums a.now.c)]); generalize (w3.alloc (.cells #[.string ⟨#[]⟩, .string ⟨#[]⟩, .string ⟨#[]⟩] 38)).setRow w3.heap.size #[.string (strOfNums a.now.a), .string (strOfNums a.now.b), .string (strOfNums a.now.c)] = W3 at HB7 HW ⊢) | fail)
        replace HD3 := Lib.hid (HD3.out.below HW.out)
        replace HS3 := Lib.hid (blk_below HS3.out HW.out)
        obtain ⟨nb, hnb⟩ : ∃ x, x = w3.heap.size := ⟨_, rfl⟩
        rw [← hnb] at HB7 ⊢
        clear HW hnb
        refine (HD3.out.copy HAt.out (by have := HI.out; omega)).mono ?_
        rintro e w4 ⟨b2, rfl, F4, hD, hb, hr, hk⟩
        have HD4 := Lib.hid hD
        have H42 := Lib.hid hb
        have H4 := Lib.hid (hr _ _ HAt.out)
        have HS4 := Lib.hid (blk_below HS3.out hk)
        have HB4 := Lib.hid (blk_below HB7.out hk)
        clear hD hb hr hk HD3 HAt HS3 HB7
        go_wp2_with fail
        refine (HD4.out.copy H4.out.2 (by have := HI.out; omega)).mono ?_
        rintro e w5 ⟨b3, rfl, F5, hD, hb, hr, hk⟩
        have HD5 := Lib.hid hD
        have H53 := Lib.hid hb
        have H5 := Lib.hid (hr _ _ H4.out.2)
        have H52 := Lib.hid (hr _ _ H42.out)
        have HS5 := Lib.hid (blk_below HS4.out hk)
        have HB5 := Lib.hid (blk_below HB4.out hk)
        clear hD hb hr hk HD4 H42 HS4 HB4
        go_wp2_with fail
        refine (HD5.out.copy H5.out.2 (by have := HI.out; omega)).mono ?_
        rintro e w6 ⟨b4, rfl, F6, hD, hb, hr, hk⟩
        have HD6 := Lib.hid hD
        have H64 := Lib.hid hb
        have H6 := Lib.hid (hr _ _ H5.out.2)
        have H62 := Lib.hid (hr _ _ H52.out.2)
        have H63 := Lib.hid (hr _ _ H53.out)
        have HS6 := Lib.hid (blk_below HS5.out hk)
        have HB6 := Lib.hid (blk_below HB5.out hk)
        clear hD hb hr hk HD5 H53 HS5 HB5
        go_wp2_with fail
        refine (HD6.out.crash H62.out.2 100 0 (crash_keep_all (HD6.out.good H6.out.2) (by have := (HD6.out.good H6.out.2).ops; have := HI.out; omega))).mono ?_
        rintro e w7 ⟨rfl, F7, hD, hb, hr, hk, _, hkt⟩
        have HD7 := Lib.hid (hD.mono (ok' := fun _ => True) (fun _ _ => trivial))
        have H72 := Lib.hid hb
        have H7 := Lib.hid ((hr b (H4.out.1)).trans H6.out.2)
        have H73 := Lib.hid ((hr b3 (fun e => H52.out.1 e.symm)).trans H63.out.2)
        have H74 := Lib.hid ((hr b4 (fun e => H62.out.1 e.symm)).trans H64.out)
        have HS7 := Lib.hid (hkt _ _ _ (by decide) (by decide) HS6.out)
        have HB7 := Lib.hid (hkt _ _ _ (by decide) (by decide) HB6.out)
        clear hD hb hr hk hkt HD6 HS6 HB6 H64
        go_wp2_with fail
        refine (HD7.out.sync H73.out (quiet_sync HQ.out)).mono ?_
        rintro e w8 ⟨rfl, F8, hD, hb, hr, hk, _, hkt⟩
        have HD8 := Lib.hid (hD.mono (ok' := fun _ => True) (fun _ _ => trivial))
        have H83 := Lib.hid hb
        have H8 := Lib.hid ((hr b (H5.out.1)).trans H7.out)
        have H82 := Lib.hid ((hr b2 (H52.out.1)).trans H72.out)
        have H84 := Lib.hid ((hr b4 (fun e => H63.out.1 e.symm)).trans H74.out)
        have HS8 := Lib.hid (hkt _ _ _ (by decide) (by decide) HS7.out)
        have HB8 := Lib.hid (hkt _ _ _ (by decide) (by decide) HB7.out)
        clear hD hb hr hk hkt HD7 HS7 HB7 H72 H73 H74 H7
        go_wp2_with fail
        refine (HD8.out.crash H84.out 0 0 (crash_keep_none a)).mono ?_
        rintro e w9 ⟨rfl, F9, hD, hb, hr, hk, _, hkt⟩
        have HD9 := Lib.hid (hD.mono (ok' := fun _ => True) (fun _ _ => trivial))
        have H94 := Lib.hid hb
        have H9 := Lib.hid ((hr b (H6.out.1)).trans H8.out)
        have H92 := Lib.hid ((hr b2 (H62.out.1)).trans H82.out)
        have H93 := Lib.hid ((hr b3 (H63.out.1)).trans H83.out)
        have HS9 := Lib.hid (hkt _ _ _ (by decide) (by decide) HS8.out)
        have HB9 := Lib.hid (hkt _ _ _ (by decide) (by decide) HB8.out)
        clear hD hb hr hk hkt HD8 HS8 HB8 H82 H83 H84 H8
        go_upto_region 14 with (fail)
        have HBr := Lib.hid (below_drew1 (Below.refl w9.heap.size w9))
        have HA := Lib.hid (fun (W : World) (hW : Below w9.heap.size w9 W) => all_calls (HD9.out.below hW) H9.out HQ.out.down (by have := HI.out; omega))
        have HA2 := Lib.hid (fun (W : World) (hW : Below w9.heap.size w9 W) => all_calls (HD9.out.below hW) H92.out rfl (by have := HI.out; omega))
        have HA3 := Lib.hid (fun (W : World) (hW : Below w9.heap.size w9 W) => all_calls (HD9.out.below hW) H93.out HQ.out.down (by have := HI.out; omega))
        have HA4 := Lib.hid (fun (W : World) (hW : Below w9.heap.size w9 W) => all_calls (HD9.out.below hW) H94.out rfl (by have := HI.out; omega))
        have HQ1 := Lib.hid (fun (W : World) (hW : Below w9.heap.size w9 W) => ld3 (blk_below HB9.out hW))
        have HQ2 := Lib.hid (fun (W : World) (hW : Below w9.heap.size w9 W) => ld3 (blk_below HS9.out hW))
        have HBel := Lib.hid HD9.out.bel
        clear HD9 HB9 HS9
        have ew : wrap64 0 = 0 := by decide +kernel
        have hG := fun (p q : Operand) (x : Fs) (W : World) => eq3_guard p q x x W
        have hE := fun (x : Fs) (W : World) => eq3_same x W
        refine start_ (n := 34) (S := fun w' => (Instr.loadAt 38 (.pointer (some ⟨nb, 0, none⟩))).run Try.prog w' = .ok (.agg #[.string (strOfNums a.now.a), .string (strOfNums a.now.b), .string (strOfNums a.now.c)]) w' ∧ (Instr.loadAt 38 (.pointer (some ⟨sb, 0, none⟩))).run Try.prog w' = .ok (.agg #[.string (strOfNums a.safe.a), .string (strOfNums a.safe.b), .string (strOfNums a.safe.c)]) w') (ds := []) #[false, false, false, false, false, false, false, false, false, false, false, false, false, false, false, false, false, false, false, false, false, false, false, false, false, false, false, false, false, false, false, false, false, false] (by kernel_rfl) rfl rfl ⟨HQ1.out _ HBr.out, HQ2.out _ HBr.out⟩ (fun hHeld => ?_)
        refine with_tabW law_crashes.tab14 law_crashes.bits14 (fun HT_ HW_ => ?_)
        refine pure_ (i := 0) (N := some 58) (v := ?_) (a' := ?_) #[true, false, false, false, false, false, false, false, false, false, false, false, false, false, false, false, false, false, false, false, false, false, false, false, false, false, false, false, false, false, false, false, false, false] rfl rfl (any_of HT_.out (by kernel_rfl)) (fun _ _ _ h => h) (Or.inl ⟨by rfl, ?_⟩) ?_ ?_
        rotate_left
        · intro w'
          go_simp
          with_reducible rfl
        rotate_left
        · simp only [Act.put, List.setIfInBounds_toArray, List.set_cons_zero, List.set_cons_succ, i64_w, i32_w]
          rfl
        refine pure_ (i := 1) (N := some 59) (v := ?_) (a' := ?_) #[true, true, false, false, false, false, false, false, false, false, false, false, false, false, false, false, false, false, false, false, false, false, false, false, false, false, false, false, false, false, false, false, false, false] rfl rfl (any_of HT_.out (by kernel_rfl)) (fun _ _ _ h => h) (Or.inl ⟨by rfl, ?_⟩) ?_ ?_
        rotate_left
        · intro w'
          go_simp
          with_reducible rfl
        rotate_left
        · simp only [Act.put, List.setIfInBounds_toArray, List.set_cons_zero, List.set_cons_succ, i64_w, i32_w]
          rfl
        refine pure_ (i := 2) (N := some 60) (v := ?_) (a' := ?_) #[true, true, true, false, false, false, false, false, false, false, false, false, false, false, false, false, false, false, false, false, false, false, false, false, false, false, false, false, false, false, false, false, false, false] rfl rfl (any_of HT_.out (by kernel_rfl)) (fun _ _ _ h => h) (Or.inl ⟨by rfl, ?_⟩) ?_ ?_
        rotate_left
        · intro w'
          go_simp
          with_reducible rfl
        rotate_left
        · simp only [Act.put, List.setIfInBounds_toArray, List.set_cons_zero, List.set_cons_succ, i64_w, i32_w]
          rfl
        refine pure_ (i := 3) (N := some 61) (v := ?_) (a' := ?_) #[true, true, true, true, false, false, false, false, false, false, false, false, false, false, false, false, false, false, false, false, false, false, false, false, false, false, false, false, false, false, false, false, false, false] rfl rfl (any_of HT_.out (by kernel_rfl)) (fun _ _ _ h => h) (Or.inl ⟨by rfl, ?_⟩) ?_ ?_
        rotate_left
        · intro w'
          go_simp
          with_reducible rfl
        rotate_left
        · simp only [Act.put, List.setIfInBounds_toArray, List.set_cons_zero, List.set_cons_succ, i64_w, i32_w]
          rfl
        refine pure_ (i := 4) (N := some 62) (v := ?_) (a' := ?_) #[true, true, true, true, true, false, false, false, false, false, false, false, false, false, false, false, false, false, false, false, false, false, false, false, false, false, false, false, false, false, false, false, false, false] rfl rfl (any_of HT_.out (by kernel_rfl)) (fun _ _ _ h => h) (Or.inl ⟨by rfl, ?_⟩) ?_ ?_
        rotate_left
        · intro w'
          go_simp
          with_reducible rfl
        rotate_left
        · simp only [Act.put, List.setIfInBounds_toArray, List.set_cons_zero, List.set_cons_succ, i64_w, i32_w]
          rfl
        refine pure_ (i := 5) (N := some 63) (v := ?_) (a' := ?_) #[true, true, true, true, true, true, false, false, false, false, false, false, false, false, false, false, false, false, false, false, false, false, false, false, false, false, false, false, false, false, false, false, false, false] rfl rfl (any_of HT_.out (by kernel_rfl)) (fun _ _ _ h => h) (Or.inl ⟨by rfl, ?_⟩) ?_ ?_
        rotate_left
        · intro w'
          go_simp
          with_reducible rfl
        rotate_left
        · simp only [Act.put, List.setIfInBounds_toArray, List.set_cons_zero, List.set_cons_succ, i64_w, i32_w]
          rfl
        refine pure_ (i := 6) (N := some 64) (v := ?_) (a' := ?_) #[true, true, true, true, true, true, true, false, false, false, false, false, false, false, false, false, false, false, false, false, false, false, false, false, false, false, false, false, false, false, false, false, false, false] rfl rfl (any_of HT_.out (by kernel_rfl)) (fun _ _ _ h => h) (Or.inl ⟨by rfl, ?_⟩) ?_ ?_
        rotate_left
        · intro w'
          go_simp
          with_reducible rfl
        rotate_left
        · simp only [Act.put, List.setIfInBounds_toArray, List.set_cons_zero, List.set_cons_succ, i64_w, i32_w]
          rfl
        refine pure_ (i := 7) (N := some 65) (v := ?_) (a' := ?_) #[true, true, true, true, true, true, true, true, false, false, false, false, false, false, false, false, false, false, false, false, false, false, false, false, false, false, false, false, false, false, false, false, false, false] rfl rfl (any_of HT_.out (by kernel_rfl)) (fun _ _ _ h => h) (Or.inl ⟨by rfl, ?_⟩) ?_ ?_
        rotate_left
        · intro w'
          go_simp
          with_reducible rfl
        rotate_left
        · simp only [Act.put, List.setIfInBounds_toArray, List.set_cons_zero, List.set_cons_succ, i64_w, i32_w]
          rfl
        refine take_ (i := 9) (N := some 67) (v := ?_) (a' := ?_) #[true, true, true, true, true, true, true, true, false, true, false, false, false, false, false, false, false, false, false, false, false, false, false, false, false, false, false, false, false, false, false, false, false, false] rfl rfl (take_ofW HT_.out HW_.out (by kernel_rfl)) (fun _ _ _ h => h) (Or.inl ⟨by rfl, ?_⟩) hHeld ?_ ?_
        rotate_left
        · rintro w' ⟨s0, s1⟩
          clear s1
          refine Eq.trans (exec_load (by rfl) (by rfl) s0) ?_
          with_reducible rfl
        rotate_left
        · simp only [Act.put, List.setIfInBounds_toArray, List.set_cons_zero, List.set_cons_succ, i64_w, i32_w]
          rfl
        refine one_ (i := 8) (N := some 66) #[true, true, true, true, true, true, true, true, true, true, false, false, false, false, false, false, false, false, false, false, false, false, false, false, false, false, false, false, false, false, false, false, false, false] rfl rfl (one_of HT_.out (by kernel_rfl)) (by decide) (fun K hK => ?_)
        refine goes_ Try.func19 (by kernel_rfl) rfl #[.pointer (some ⟨b2, 0, none⟩)] (by rfl) rfl rfl (by simp only [List.map_toArray, List.map_cons, List.map_nil]; rfl) ?_
        with_reducible refine (HA2.out _ HBr.out).mono ?_
        rintro e x1 ⟨rfl, hb⟩
        refine ⟨_, rfl, ?_⟩
        replace HBr := Lib.hid (below_then HBr.out HBr.out.size hb)
        clear hb
        refine hK.out _ _ ⟨HQ1.out _ HBr.out, HQ2.out _ HBr.out⟩ (fun hHeld => ?_)
        clear hK K
        refine norm_ (a' := ?_) ?_ ?_
        rotate_left
        · show Act.put _ (some 66) _ = _
          simp only [Act.put, List.setIfInBounds_toArray, List.set_cons_zero, List.set_cons_succ, i64_w, i32_w]
          rfl
        refine pure_ (i := 10) (N := some 68) (v := ?_) (a' := ?_) #[true, true, true, true, true, true, true, true, true, true, true, false, false, false, false, false, false, false, false, false, false, false, false, false, false, false, false, false, false, false, false, false, false, false] rfl rfl (any_of HT_.out (by kernel_rfl)) (fun _ _ _ h => h) (Or.inl ⟨by rfl, ?_⟩) ?_ ?_
        rotate_left
        · intro w'
          go_simp
          with_reducible rfl
        rotate_left
        · simp only [Act.put, List.setIfInBounds_toArray, List.set_cons_zero, List.set_cons_succ, i64_w, i32_w]
          rfl
        refine pure_ (i := 11) (N := some 69) (v := ?_) (a' := ?_) #[true, true, true, true, true, true, true, true, true, true, true, true, false, false, false, false, false, false, false, false, false, false, false, false, false, false, false, false, false, false, false, false, false, false] rfl rfl (any_of HT_.out (by kernel_rfl)) (fun _ _ _ h => h) (Or.inl ⟨by rfl, ?_⟩) ?_ ?_
        rotate_left
        · intro w'
          go_simp
          with_reducible rfl
        rotate_left
        · simp only [Act.put, List.setIfInBounds_toArray, List.set_cons_zero, List.set_cons_succ, i64_w, i32_w]
          rfl
        refine pure_ (i := 12) (N := some 70) (v := ?_) (a' := ?_) #[true, true, true, true, true, true, true, true, true, true, true, true, true, false, false, false, false, false, false, false, false, false, false, false, false, false, false, false, false, false, false, false, false, false] rfl rfl (any_of HT_.out (by kernel_rfl)) (fun _ _ _ h => h) (Or.inl ⟨by rfl, ?_⟩) ?_ ?_
        rotate_left
        · intro w'
          go_simp
          with_reducible rfl
        rotate_left
        · simp only [Act.put, List.setIfInBounds_toArray, List.set_cons_zero, List.set_cons_succ, i64_w, i32_w]
          rfl
        refine pure_ (i := 13) (N := some 71) (v := ?_) (a' := ?_) #[true, true, true, true, true, true, true, true, true, true, true, true, true, true, false, false, false, false, false, false, false, false, false, false, false, false, false, false, false, false, false, false, false, false] rfl rfl (any_of HT_.out (by kernel_rfl)) (fun _ _ _ h => h) (Or.inl ⟨by rfl, ?_⟩) ?_ ?_
        rotate_left
        · intro w'
          go_simp
          with_reducible rfl
        rotate_left
        · simp only [Act.put, List.setIfInBounds_toArray, List.set_cons_zero, List.set_cons_succ, i64_w, i32_w]
          rfl
        refine take_ (i := 15) (N := some 73) (v := ?_) (a' := ?_) #[true, true, true, true, true, true, true, true, true, true, true, true, true, true, false, true, false, false, false, false, false, false, false, false, false, false, false, false, false, false, false, false, false, false] rfl rfl (take_ofW HT_.out HW_.out (by kernel_rfl)) (fun _ _ _ h => h) (Or.inl ⟨by rfl, ?_⟩) hHeld ?_ ?_
        rotate_left
        · rintro w' ⟨s0, s1⟩
          clear s1
          refine Eq.trans (exec_load (by rfl) (by rfl) s0) ?_
          with_reducible rfl
        rotate_left
        · simp only [Act.put, List.setIfInBounds_toArray, List.set_cons_zero, List.set_cons_succ, i64_w, i32_w]
          rfl
        refine one_ (i := 14) (N := some 72) #[true, true, true, true, true, true, true, true, true, true, true, true, true, true, true, true, false, false, false, false, false, false, false, false, false, false, false, false, false, false, false, false, false, false] rfl rfl (one_of HT_.out (by kernel_rfl)) (by decide) (fun K hK => ?_)
        refine goes_ Try.func19 (by kernel_rfl) rfl #[.pointer (some ⟨b3, 0, none⟩)] (by rfl) rfl rfl (by simp only [List.map_toArray, List.map_cons, List.map_nil]; rfl) ?_
        with_reducible refine (HA3.out _ HBr.out).mono ?_
        rintro e x2 ⟨rfl, hb⟩
        refine ⟨_, rfl, ?_⟩
        replace HBr := Lib.hid (below_then HBr.out HBr.out.size hb)
        clear hb
        refine hK.out _ _ ⟨HQ1.out _ HBr.out, HQ2.out _ HBr.out⟩ (fun hHeld => ?_)
        clear hK K
        refine norm_ (a' := ?_) ?_ ?_
        rotate_left
        · show Act.put _ (some 72) _ = _
          simp only [Act.put, List.setIfInBounds_toArray, List.set_cons_zero, List.set_cons_succ, i64_w, i32_w]
          rfl
        refine pure_ (i := 16) (N := some 74) (v := ?_) (a' := ?_) #[true, true, true, true, true, true, true, true, true, true, true, true, true, true, true, true, true, false, false, false, false, false, false, false, false, false, false, false, false, false, false, false, false, false] rfl rfl (any_of HT_.out (by kernel_rfl)) (fun _ _ _ h => h) (Or.inl ⟨by rfl, ?_⟩) ?_ ?_
        rotate_left
        · intro w'
          go_simp
          with_reducible rfl
        rotate_left
        · simp only [Act.put, List.setIfInBounds_toArray, List.set_cons_zero, List.set_cons_succ, i64_w, i32_w]
          rfl
        refine pure_ (i := 17) (N := some 75) (v := ?_) (a' := ?_) #[true, true, true, true, true, true, true, true, true, true, true, true, true, true, true, true, true, true, false, false, false, false, false, false, false, false, false, false, false, false, false, false, false, false] rfl rfl (any_of HT_.out (by kernel_rfl)) (fun _ _ _ h => h) (Or.inl ⟨by rfl, ?_⟩) ?_ ?_
        rotate_left
        · intro w'
          go_simp
          with_reducible rfl
        rotate_left
        · simp only [Act.put, List.setIfInBounds_toArray, List.set_cons_zero, List.set_cons_succ, i64_w, i32_w]
          rfl
        refine pure_ (i := 18) (N := some 76) (v := ?_) (a' := ?_) #[true, true, true, true, true, true, true, true, true, true, true, true, true, true, true, true, true, true, true, false, false, false, false, false, false, false, false, false, false, false, false, false, false, false] rfl rfl (any_of HT_.out (by kernel_rfl)) (fun _ _ _ h => h) (Or.inl ⟨by rfl, ?_⟩) ?_ ?_
        rotate_left
        · intro w'
          go_simp
          with_reducible rfl
        rotate_left
        · simp only [Act.put, List.setIfInBounds_toArray, List.set_cons_zero, List.set_cons_succ, i64_w, i32_w]
          rfl
        refine pure_ (i := 19) (N := some 77) (v := ?_) (a' := ?_) #[true, true, true, true, true, true, true, true, true, true, true, true, true, true, true, true, true, true, true, true, false, false, false, false, false, false, false, false, false, false, false, false, false, false] rfl rfl (any_of HT_.out (by kernel_rfl)) (fun _ _ _ h => h) (Or.inl ⟨by rfl, ?_⟩) ?_ ?_
        rotate_left
        · intro w'
          go_simp
          with_reducible rfl
        rotate_left
        · simp only [Act.put, List.setIfInBounds_toArray, List.set_cons_zero, List.set_cons_succ, i64_w, i32_w]
          rfl
        refine take_ (i := 21) (N := some 79) (v := ?_) (a' := ?_) #[true, true, true, true, true, true, true, true, true, true, true, true, true, true, true, true, true, true, true, true, false, true, false, false, false, false, false, false, false, false, false, false, false, false] rfl rfl (take_ofW HT_.out HW_.out (by kernel_rfl)) (fun _ _ _ h => h) (Or.inl ⟨by rfl, ?_⟩) hHeld ?_ ?_
        rotate_left
        · rintro w' ⟨s0, s1⟩
          clear s0
          refine Eq.trans (exec_load (by rfl) (by rfl) s1) ?_
          with_reducible rfl
        rotate_left
        · simp only [Act.put, List.setIfInBounds_toArray, List.set_cons_zero, List.set_cons_succ, i64_w, i32_w]
          rfl
        refine one_ (i := 20) (N := some 78) #[true, true, true, true, true, true, true, true, true, true, true, true, true, true, true, true, true, true, true, true, true, true, false, false, false, false, false, false, false, false, false, false, false, false] rfl rfl (one_of HT_.out (by kernel_rfl)) (by decide) (fun K hK => ?_)
        refine goes_ Try.func19 (by kernel_rfl) rfl #[.pointer (some ⟨b4, 0, none⟩)] (by rfl) rfl rfl (by simp only [List.map_toArray, List.map_cons, List.map_nil]; rfl) ?_
        with_reducible refine (HA4.out _ HBr.out).mono ?_
        rintro e x3 ⟨rfl, hb⟩
        refine ⟨_, rfl, ?_⟩
        replace HBr := Lib.hid (below_then HBr.out HBr.out.size hb)
        clear hb
        refine hK.out _ _ ⟨HQ1.out _ HBr.out, HQ2.out _ HBr.out⟩ (fun hHeld => ?_)
        clear hK K
        refine norm_ (a' := ?_) ?_ ?_
        rotate_left
        · show Act.put _ (some 78) _ = _
          simp only [Act.put, List.setIfInBounds_toArray, List.set_cons_zero, List.set_cons_succ, i64_w, i32_w]
          rfl
        refine pure_ (i := 22) (N := some 80) (v := ?_) (a' := ?_) #[true, true, true, true, true, true, true, true, true, true, true, true, true, true, true, true, true, true, true, true, true, true, true, false, false, false, false, false, false, false, false, false, false, false] rfl rfl (any_of HT_.out (by kernel_rfl)) (fun _ _ _ h => h) (Or.inl ⟨by rfl, ?_⟩) ?_ ?_
        rotate_left
        · intro w'
          go_simp
          with_reducible rfl
        rotate_left
        · simp only [Act.put, List.setIfInBounds_toArray, List.set_cons_zero, List.set_cons_succ, i64_w, i32_w]
          rfl
        refine pure_ (i := 23) (N := some 81) (v := ?_) (a' := ?_) #[true, true, true, true, true, true, true, true, true, true, true, true, true, true, true, true, true, true, true, true, true, true, true, true, false, false, false, false, false, false, false, false, false, false] rfl rfl (any_of HT_.out (by kernel_rfl)) (fun _ _ _ h => h) (Or.inl ⟨by rfl, ?_⟩) ?_ ?_
        rotate_left
        · intro w'
          go_simp
          with_reducible rfl
        rotate_left
        · simp only [Act.put, List.setIfInBounds_toArray, List.set_cons_zero, List.set_cons_succ, i64_w, i32_w]
          rfl
        refine pure_ (i := 24) (N := some 82) (v := ?_) (a' := ?_) #[true, true, true, true, true, true, true, true, true, true, true, true, true, true, true, true, true, true, true, true, true, true, true, true, true, false, false, false, false, false, false, false, false, false] rfl rfl (any_of HT_.out (by kernel_rfl)) (fun _ _ _ h => h) (Or.inl ⟨by rfl, ?_⟩) ?_ ?_
        rotate_left
        · intro w'
          go_simp
          with_reducible rfl
        rotate_left
        · simp only [Act.put, List.setIfInBounds_toArray, List.set_cons_zero, List.set_cons_succ, i64_w, i32_w]
          rfl
        refine pure_ (i := 25) (N := some 83) (v := ?_) (a' := ?_) #[true, true, true, true, true, true, true, true, true, true, true, true, true, true, true, true, true, true, true, true, true, true, true, true, true, true, false, false, false, false, false, false, false, false] rfl rfl (any_of HT_.out (by kernel_rfl)) (fun _ _ _ h => h) (Or.inl ⟨by rfl, ?_⟩) ?_ ?_
        rotate_left
        · intro w'
          go_simp
          with_reducible rfl
        rotate_left
        · simp only [Act.put, List.setIfInBounds_toArray, List.set_cons_zero, List.set_cons_succ, i64_w, i32_w]
          rfl
        refine take_ (i := 27) (N := some 85) (v := ?_) (a' := ?_) #[true, true, true, true, true, true, true, true, true, true, true, true, true, true, true, true, true, true, true, true, true, true, true, true, true, true, false, true, false, false, false, false, false, false] rfl rfl (take_ofW HT_.out HW_.out (by kernel_rfl)) (fun _ _ _ h => h) (Or.inl ⟨by rfl, ?_⟩) hHeld ?_ ?_
        rotate_left
        · rintro w' ⟨s0, s1⟩
          clear s1
          refine Eq.trans (exec_load (by rfl) (by rfl) s0) ?_
          with_reducible rfl
        rotate_left
        · simp only [Act.put, List.setIfInBounds_toArray, List.set_cons_zero, List.set_cons_succ, i64_w, i32_w]
          rfl
        refine one_ (i := 26) (N := some 84) #[true, true, true, true, true, true, true, true, true, true, true, true, true, true, true, true, true, true, true, true, true, true, true, true, true, true, true, true, false, false, false, false, false, false] rfl rfl (one_of HT_.out (by kernel_rfl)) (by decide) (fun K hK => ?_)
        refine goes_ Try.func19 (by kernel_rfl) rfl #[.pointer (some ⟨b, 0, none⟩)] (by rfl) rfl rfl (by simp only [List.map_toArray, List.map_cons, List.map_nil]; rfl) ?_
        with_reducible refine (HA.out _ HBr.out).mono ?_
        rintro e x4 ⟨rfl, hb⟩
        refine ⟨_, rfl, ?_⟩
        replace HBr := Lib.hid (below_then HBr.out HBr.out.size hb)
        clear hb
        refine hK.out _ _ ⟨HQ1.out _ HBr.out, HQ2.out _ HBr.out⟩ (fun hHeld => ?_)
        clear hK K
        refine norm_ (a' := ?_) ?_ ?_
        rotate_left
        · show Act.put _ (some 84) _ = _
          simp only [Act.put, List.setIfInBounds_toArray, List.set_cons_zero, List.set_cons_succ, i64_w, i32_w]
          rfl
        refine pure_ (i := 28) (N := some 86) (v := ?_) (a' := ?_) #[true, true, true, true, true, true, true, true, true, true, true, true, true, true, true, true, true, true, true, true, true, true, true, true, true, true, true, true, true, false, false, false, false, false] rfl rfl (any_of HT_.out (by kernel_rfl)) (fun _ _ _ h => h) (Or.inl ⟨by rfl, ?_⟩) ?_ ?_
        rotate_left
        · intro w'
          go_simp
          with_reducible rfl
        rotate_left
        · simp only [Act.put, List.setIfInBounds_toArray, List.set_cons_zero, List.set_cons_succ, i64_w, i32_w]
          rfl
        refine pure_ (i := 29) (N := some 87) (v := ?_) (a' := ?_) #[true, true, true, true, true, true, true, true, true, true, true, true, true, true, true, true, true, true, true, true, true, true, true, true, true, true, true, true, true, true, false, false, false, false] rfl rfl (any_of HT_.out (by kernel_rfl)) (fun _ _ _ h => h) (Or.inl ⟨by rfl, ?_⟩) ?_ ?_
        rotate_left
        · intro w'
          go_simp
          with_reducible rfl
        rotate_left
        · simp only [Act.put, List.setIfInBounds_toArray, List.set_cons_zero, List.set_cons_succ, i64_w, i32_w]
          rfl
        refine pure_ (i := 30) (N := some 88) (v := ?_) (a' := ?_) #[true, true, true, true, true, true, true, true, true, true, true, true, true, true, true, true, true, true, true, true, true, true, true, true, true, true, true, true, true, true, true, false, false, false] rfl rfl (any_of HT_.out (by kernel_rfl)) (fun _ _ _ h => h) (Or.inl ⟨by rfl, ?_⟩) ?_ ?_
        rotate_left
        · intro w'
          go_simp
          with_reducible rfl
        rotate_left
        · simp only [Act.put, List.setIfInBounds_toArray, List.set_cons_zero, List.set_cons_succ, i64_w, i32_w]
          rfl
        refine one_ (i := 31) (N := some 89) #[true, true, true, true, true, true, true, true, true, true, true, true, true, true, true, true, true, true, true, true, true, true, true, true, true, true, true, true, true, true, true, true, false, false] rfl rfl (one_of HT_.out (by kernel_rfl)) (by decide) (fun K hK => ?_)
        refine goes_ Try.func17 (by kernel_rfl) rfl #[] (by rfl) rfl rfl (by simp only [List.map_toArray, List.map_cons, List.map_nil]) ?_
        with_reducible refine (awake_calls _).mono ?_
        rintro e x5 ⟨rfl, hb⟩
        refine ⟨_, rfl, ?_⟩
        replace HBr := Lib.hid (below_then HBr.out HBr.out.size hb)
        clear hb
        refine hK.out _ _ ⟨HQ1.out _ HBr.out, HQ2.out _ HBr.out⟩ (fun hHeld => ?_)
        clear hK K
        refine norm_ (a' := ?_) ?_ ?_
        rotate_left
        · show Act.put _ (some 89) _ = _
          simp only [Act.put, List.setIfInBounds_toArray, List.set_cons_zero, List.set_cons_succ, i64_w, i32_w]
          rfl
        refine pure_ (i := 32) (N := some 90) (v := ?_) (a' := ?_) #[true, true, true, true, true, true, true, true, true, true, true, true, true, true, true, true, true, true, true, true, true, true, true, true, true, true, true, true, true, true, true, true, true, false] rfl rfl (any_of HT_.out (by kernel_rfl)) (fun _ _ _ h => h) (Or.inl ⟨by rfl, ?_⟩) ?_ ?_
        rotate_left
        · intro w'
          go_simp
          with_reducible rfl
        rotate_left
        · simp only [Act.put, List.setIfInBounds_toArray, List.set_cons_zero, List.set_cons_succ, i64_w, i32_w]
          rfl
        refine pure_ (i := 33) (N := some 2) (v := ?_) (a' := ?_) #[true, true, true, true, true, true, true, true, true, true, true, true, true, true, true, true, true, true, true, true, true, true, true, true, true, true, true, true, true, true, true, true, true, true] rfl rfl (any_of HT_.out (by kernel_rfl)) (fun _ _ _ h => h) (Or.inl ⟨by rfl, ?_⟩) ?_ ?_
        rotate_left
        · intro w'
          go_simp
          with_reducible rfl
        rotate_left
        · simp only [Act.put, List.setIfInBounds_toArray, List.set_cons_zero, List.set_cons_succ, i64_w, i32_w]
          rfl
        refine done_ (done_of HT_.out (by kernel_rfl)) ?_
        
        go_wp2
        go_ret
        exact ⟨rfl, below_then HBel.out HBel.out.size HBr.out⟩)
end Go.Proofs.Ytfggcdpipolahaa.PF
