/- DepsSettle of musterlaw20. (A part of the print PS.) -/
import Derived.Test.YthcikldhlohjbaaSDepsAwake
import Derived.Test.YthcikldhlohjbaaSPlainDeps
import Derived.Test.YthcikldhlohjbaaPlainSettle
import Derived.Test.YthcikldhlohjbaaSJobFR
import Derived.Test.YthcikldhlohjbaaSPlainJob
import Derived.Test.YthcikldhlohjbaaPSx8
set_option linter.unusedVariables false
set_option linter.unusedSimpArgs false
namespace Go.Proofs.Ythcikldhlohjbaa.PS
open Go.RowKit Go.Proofs.YthcikldhlohjbaaW.PrintWords Go.Proofs.YthcikldhlohjbaaW.PrintLast Go.Proofs.YthcikldhlohjbaaW.PrintMore Go.Proofs.Ythcikldhlohjbaa.Ones
def Stop (p : Prop) : Prop := p
theorem stop_ {p : Prop} (h : Stop p) : p := h
attribute [local go_sem] max2_int min2_int max_two min_two
/-- The set that Begin is handed. -/
def onOf (n : Int) : Int := IntKind.u32.wrap (IntKind.u32.wrap (2 ^ (if 0 < if 31 < n then 31 else n then if 31 < n then 31 else n else 0).toNat) - 1)
def nowOf (s : Int) : Int := if s < 0 then 0 else s
theorem onOf_ok (n : Int) : Jb.u32ok (onOf n) := by
  unfold onOf
  generalize IntKind.u32.wrap (2 ^ (if 0 < if 31 < n then 31 else n then if 31 < n then 31 else n else 0).toNat) - 1 = m
  rw [IntKind.wrap_u32]
  exact ⟨by omega, by omega⟩
abbrev kTurn : Kd (Int × Int) := Kd.pair (Kd.int .i64) (Kd.int .i64)
/-- A job that the model can hold. -/
def JsOk (js : List S43) : Prop := ∀ x ∈ js, Jb.JOk x
theorem copy_calls (js : List S43) (hl : js.length ≤ 60) (hj : JsOk js) (A : Option Addr) (c : Nat) (w : World) (hr : Kd.C k43 w A js.length js) (hc : js.length ≤ c) :
    Calls Try.prog 16 #[.slice A js.length c] w fun e w' => ∃ A' c', e = .returned (.slice A' js.length c') ∧ Kd.R k43 43 w' w.heap.size (fun _ => True) (.slice A' js.length c') js ∧ Below w.heap.size w w' := by
  refine (musterkit_CopyJobs.calls (js.length + depLen js + 1) A c js js w hr hc (copyJobs js (by omega) (fun x hx => (hj x hx).2) _ (by omega))).mono ?_
  rintro e w' ⟨v, rfl, hs, hb⟩
  have hR := Kd.S_R hs
  obtain ⟨A', c', rfl⟩ := Kd.R_slice hR
  exact ⟨A', c', rfl, hR, hb⟩
theorem pick_any (a : Int) (n : Nat) (h0 : 1 ≤ n) (hn : n ≤ 1000) : ∃ k : Nat, k < n ∧ ∀ w, Calls Try.prog 25 #[.int .i64 a, .int .i64 n] w fun e w' => e = .returned (.int .i64 k) ∧ Drawn0 w w' := by
  have h1 : -(n : Int) < Int.tmod a n ∧ Int.tmod a n < n := by
    have := Int.tmod_lt_of_pos a (show (0 : Int) < n by omega)
    have h2 := Int.tmod_lt_of_pos (-a) (show (0 : Int) < n by omega)
    rw [Int.neg_tmod] at h2
    exact ⟨by omega, this⟩
  by_cases hneg : Int.tmod a n < 0
  · obtain ⟨k, hk⟩ := Int.eq_ofNat_of_zero_le (show 0 ≤ Int.tmod a n + n by omega)
    refine ⟨k, by omega, fun w => musterkit_Pick.calls a n k w ?_⟩
    unfold musterkit_Pick.f
    rw [if_neg (by omega), if_neg (by omega), if_pos hneg]
    congr 1
    unfold wrap64
    omega
  · obtain ⟨k, hk⟩ := Int.eq_ofNat_of_zero_le (show 0 ≤ Int.tmod a n by omega)
    refine ⟨k, by omega, fun w => musterkit_Pick.calls a n k w ?_⟩
    unfold musterkit_Pick.f
    rw [if_neg (by omega), if_neg (by omega), if_neg hneg, hk]
theorem at_turn {w : World} {A : Option Addr} {ts : List (Int × Int)} (h : Kd.C kTurn w A ts.length ts) (j : Nat) (hj : j < ts.length) :
    ∃ ad, A = some ad ∧ w.cell? (ad.add (j * 2)) = some (.int .i64 ts[j].1) ∧ w.cell? ⟨(ad.add (j * 2)).block, (ad.add (j * 2)).off + 1, none⟩ = some (.int .i64 ts[j].2) := by
  obtain ⟨ad, c, e, _, hK, hc0⟩ := Kd.C_get h ((0, 0) : Int × Int) (j : Int) (by omega) (by omega)
  have hg : ts.getD (j : Int).toNat ((0, 0) : Int × Int) = ts[j] := by simp [List.getD, hj]
  rw [hg] at hK
  rw [Int.toNat_natCast] at hc0
  have hc : ∀ i u, c[i]? = some u → w.cell? (ad.add (j * 2 + i)) = some u := hc0
  obtain ⟨u1, u2, rfl, h1, h2⟩ := hK
  obtain rfl : u1 = [.int .i64 ts[j].1] := h1
  obtain rfl : u2 = [.int .i64 ts[j].2] := h2
  exact ⟨ad, e, hc 0 _ rfl, by rw [← add_field _ _ 1 (by omega)]; exact hc 1 _ rfl⟩
/-- What the loop holds of the world. -/
def LS (w0 : World) (A' : Option Addr) (c' : Nat) (js : List S43) (W : World) : Prop :=
  Kd.R k43 43 W w0.heap.size (fun _ => True) (.slice A' js.length c') js ∧ Below w0.heap.size w0 W
theorem LS.keep {w0 w1 w2 : World} {A' : Option Addr} {c' : Nat} {js : List S43} (h : LS w0 A' c' js w1) (hb : Below w1.heap.size w1 w2) : LS w0 A' c' js w2 := ⟨Kd.R_below h.1 hb, below_then h.2 h.2.size hb⟩
theorem LS.row {w0 w1 : World} {A' : Option Addr} {c' : Nat} {js : List S43} (h : LS w0 A' c' js w1) : Kd.C k43 w1 A' js.length js ∧ js.length ≤ c' := ⟨(Kd.R_reads' h.1).2.2, (Kd.R_reads' h.1).2.1⟩
def musterlaw20_DepsSettle.T12 : Bool × List (List Nat × List Nat) := (true, [([], []), ([], []), ([0, 1], [0, 1]), ([2], [2]), ([], []), ([], []), ([4, 5], [4, 5]), ([6], [6]), ([7], [7]), ([8], [8]), ([9], [9]), ([], []), ([11, 3, 9, 0, 1, 2, 3, 11], [3, 11]), ([10, 12, 0, 1, 2, 3, 4, 5, 6, 7, 8, 9, 10, 11, 12], [10])])
def musterlaw20_DepsSettle.B12 : List Nat := [0, 0, 3, 7, 0, 0, 48, 112, 240, 496, 1008, 0, 3071, 8191]
theorem musterlaw20_DepsSettle.tab12 : rtab .any (opsOf Try.f5 12) = musterlaw20_DepsSettle.T12 := by kernel_rfl
theorem musterlaw20_DepsSettle.bits12 : waitsOk musterlaw20_DepsSettle.T12.2 musterlaw20_DepsSettle.B12 = true := by kernel_rfl
def musterlaw20_DepsSettle.T15 : Bool × List (List Nat × List Nat) := (true, [([], []), ([], []), ([1], [1]), ([2], [2]), ([3], [3]), ([4], [4]), ([5], [5]), ([6], [6]), ([], []), ([8], [8]), ([9], [9]), ([0, 7, 10], [0, 7, 10]), ([11], [11]), ([12], [12]), ([12], [12]), ([13, 11, 0, 1, 2, 3, 4, 5, 6, 7, 8, 9, 10, 11, 12, 13], [13]), ([14, 15, 0, 1, 2, 3, 4, 5, 6, 7, 8, 9, 10, 11, 12, 13, 14, 15], [14])])
def musterlaw20_DepsSettle.B15 : List Nat := [0, 0, 2, 6, 14, 30, 62, 126, 0, 256, 768, 2047, 4095, 8191, 8191, 16383, 65535]
theorem musterlaw20_DepsSettle.tab15 : rtab .any (opsOf Try.f5 15) = musterlaw20_DepsSettle.T15 := by kernel_rfl
theorem musterlaw20_DepsSettle.bits15 : waitsOk musterlaw20_DepsSettle.T15.2 musterlaw20_DepsSettle.B15 = true := by kernel_rfl
set_option maxRecDepth 100000 in
set_option maxHeartbeats 8000000 in
theorem settle_calls (l : List S104) (A : Option Addr) (c : Nat) (js : List S43) (A1 : Option Addr) (c1 : Nat) (ts : List (Int × Int)) (A2 : Option Addr) (c2 : Nat) (w : World)
    (hl : Kd.C k104 w A l.length l) (hc : l.length ≤ c) (hj : Kd.C k43 w A1 js.length js) (hc1 : js.length ≤ c1) (ht : Kd.C kTurn w A2 ts.length ts) (hc2 : ts.length ≤ c2) (hok : JsOk js) :
    Calls Try.prog 5 #[.slice A l.length c, .slice A1 js.length c1, .slice A2 ts.length c2] w fun e w' => e = .returned (.bool true) ∧ Below w.heap.size w w' := by
  have hln := hl.2.1
  have hjn := hj.2.1
  have htn := ht.2.1
  have HL := Lib.hid (And.intro hl hc)
  have HJ := Lib.hid (And.intro hj (And.intro hc1 hok))
  have HT := Lib.hid (And.intro ht hc2)
  clear hl hc hj hc1 ht hc2 hok
  go_enter Try.func5, Try.ntmps5
  by_cases hbig : (js.length : Int) ≤ 60 ∧ (l.length : Int) ≤ 60
  · obtain ⟨h60, h61⟩ := hbig
    have q1 : ¬ (60 : Int) < (js.length : Int) := by omega
    have q2 : ¬ (60 : Int) < (l.length : Int) := by omega
    have HC := Lib.hid (copy_calls js (by omega) HJ.out.2.2 A1 c1 w HJ.out.1 HJ.out.2.1)
    go_wp2_with fail
    refine HC.out.mono ?_
    rintro e w1 ⟨A', c', rfl, hR, hb⟩
    have LW : Hid (LS w A' c' js w1) := Lib.hid ⟨hR, hb⟩
    clear HC hR hb
    go_wp2_with fail
    refine (holds_calls l A c js A' c' w1 (Kd.C_below HL.out.1 LW.out.2) HL.out.2 LW.out.row.1 LW.out.row.2).mono ?_
    rintro e w2 ⟨rfl, hb⟩
    replace LW := Lib.hid (LW.out.keep hb)
    clear hb
    go_wp2_with fail
    refine (never_calls l A c js A' c' w2 (Kd.C_below HL.out.1 LW.out.2) HL.out.2 LW.out.row.1 LW.out.row.2).mono ?_
    rintro e w3 ⟨rfl, hb⟩
    replace LW := Lib.hid (LW.out.keep hb)
    clear hb
    go_wp2
    go_loopw [8, 9, 10] (fun v8 v9 v10 wr => ∃ (ks : List S43) (j : Nat), j ≤ ts.length ∧ j ≤ 60 ∧ ks.length = js.length ∧ v8 = .bool (depsHolds l ks) ∧ v9 = .bool (depsNever l ks) ∧ v10 = .int .i64 j ∧ Hid (JsOk ks) ∧ Hid (LS w A' c' ks wr)) (fun _ _ v10 _ => ts.length - (intOf v10).toNat)
    case atStart => exact ⟨js, 0, Nat.zero_le _, Nat.zero_le _, rfl, rfl, rfl, rfl, Lib.hid HJ.out.2.2, LW⟩
    case round =>
      clear LW
      obtain ⟨ks, j, hj, hj60, hlen, rfl, rfl, rfl, HK, LW⟩ := hrel
      by_cases hlt : (j : Int) < (ts.length : Int)
      · by_cases hlt6 : (j : Int) < 60
        · as_aux_lemma =>
          have HNB : Hid (depsHolds l ks = true → depsNever l ks = false) := Lib.hid (not_both l ks)
          obtain ⟨hv, hhv⟩ : ∃ b, b = depsHolds l ks := ⟨_, rfl⟩
          obtain ⟨nv, hnv⟩ : ∃ b, b = depsNever l ks := ⟨_, rfl⟩
          rw [← hhv, ← hnv] at HNB ⊢
          have HVN := Lib.hid (And.intro hhv hnv)
          clear hhv hnv
          go_upto_region 8 with (fail)
          go_cut [48] (fun v48 wc => v48 = .bool false ∧ wr = wc)
          case first =>
            cases hv <;> cases nv
            all_goals
              first
              | (exfalso; have hx := HNB.out rfl; cases hx; done)
              | (go_wp2
                 go_meet
                 case rel => exact ⟨rfl, rfl⟩)
          case rest =>
            obtain ⟨rfl, rfl⟩ := hcut
            by_cases h0 : (js.length : Int) = 0
            · have h0b : ((js.length : Int) == 0) = true := beq_iff_eq.2 h0
              go_wp2_with fail
              refine (awake20_calls _).mono ?_
              rintro e w5 ⟨rfl, hb⟩
              replace LW := Lib.hid (LW.out.keep hb)
              clear hb
              go_wp2
              go_ret
              exact ⟨rfl, LW.out.2⟩
            · have h0b : ((js.length : Int) == 0) = false := beq_eq_false_iff_ne.2 h0
              have p1 : 0 ≤ (j : Int) := by omega
              obtain ⟨ad, e1, hx0, hx1⟩ := at_turn HT.out.1 j (by omega)
              cases e1
              replace hx0 := (LW.out.2.cell (World.block_lt_of_cell? w _ hx0)).trans hx0
              replace hx1 := (LW.out.2.cell (World.block_lt_of_cell? w _ hx1)).trans hx1
              generalize ts[j] = t at hx0 hx1
              obtain ⟨k, hk, hpk⟩ := pick_any t.1 js.length (by omega) (by omega)
              have HP := Lib.hid hpk
              clear hpk
              go_wp2_with fail
              refine (HP.out _).mono ?_
              rintro e0 w5 ⟨rfl, hd⟩
              replace LW := Lib.hid (LW.out.keep hd.below)
              replace hx1 := (hd.below.cell (World.block_lt_of_cell? wr _ hx1)).trans hx1
              clear hd hx0 HP
              obtain ⟨k2, hk2, hpk2⟩ := pick_any t.2 10 (by omega) (by omega)
              have HPK := Lib.hid (show ∀ w, Calls Try.prog 25 #[.int .i64 t.2, .int .i64 10] w fun e w' => e = .returned (.int .i64 k2) ∧ Drawn0 w w' from hpk2)
              have hkl : k < ks.length := by omega
              obtain ⟨ad1, B, e, e1, hBl, hBC, hld⟩ := job_load LW.out.row.1 k hkl
              cases e1
              have HL1 := Lib.hid (show ∀ w' : World, Below w5.heap.size w5 w' → (Instr.loadAt 43 (.pointer (some (ad1.add (k * 17))))).run Try.prog w' = .ok (Jb.jobV (ks[k]'hkl) B e) w' from hld)
              have HX1 := Lib.hid (fun (W : World) (hW : Below w5.heap.size w5 W) => (hW.cell (World.block_lt_of_cell? w5 _ hx1)).trans hx1)
              have HX : Hid (Jb.JOk (ks[k]'hkl)) := Lib.hid (HK.out _ (List.getElem_mem hkl))
              have HV := Lib.hid (And.intro hBl hBC)
              have HKL := Lib.hid hkl
              obtain ⟨x, hx⟩ : ∃ x, x = ks[k]'hkl := ⟨_, rfl⟩
              rw [← hx] at HL1 HX HV
              replace hx := Lib.hid hx
              have p2 : 0 ≤ (k : Int) := by omega
              have q2 : (k : Int) < (js.length : Int) := by omega
              have q3 : (k2 : Int) < 256 := by omega
              clear hpk2 hBl hBC hld hx1
              go_upto_region 12 with (fail)
              have HB5 := Lib.hid (Below.refl w5.heap.size w5).drew
              refine start_ (n := 14) (S := fun w' => (Instr.loadAt 43 (.pointer (some (ad1.add (k * 17))))).run Try.prog w' = .ok (Jb.jobV x B e) w' ∧ w'.cell? ⟨(ad.add (j * 2)).block, (ad.add (j * 2)).off + 1, none⟩ = some (.int .i64 t.2)) (ds := []) #[false, false, false, false, false, false, false, false, false, false, false, false, false, false] (by kernel_rfl) rfl rfl ⟨HL1.out _ HB5.out, HX1.out _ HB5.out⟩ (fun hHeld => ?_)
              refine with_tabW musterlaw20_DepsSettle.tab12 musterlaw20_DepsSettle.bits12 (fun HT_ HW_ => ?_)
              refine pure_ (i := 0) (N := some 60) (v := ?_) (a' := ?_) #[true, false, false, false, false, false, false, false, false, false, false, false, false, false] rfl rfl (any_of HT_.out (by kernel_rfl)) (fun _ _ _ h => h) (Or.inl ⟨by rfl, ?_⟩) ?_ ?_
              rotate_left
              · intro w'
                go_simp
                with_reducible rfl
              rotate_left
              · simp only [Act.put, List.setIfInBounds_toArray, List.set_cons_zero, List.set_cons_succ, i64_w, i32_w]
                rfl
              refine pure_ (i := 1) (N := some 61) (v := ?_) (a' := ?_) #[true, true, false, false, false, false, false, false, false, false, false, false, false, false] rfl rfl (any_of HT_.out (by kernel_rfl)) (fun _ _ _ h => h) (Or.inl ⟨by rfl, ?_⟩) ?_ ?_
              rotate_left
              · intro w'
                go_simp
                with_reducible rfl
              rotate_left
              · simp only [Act.put, List.setIfInBounds_toArray, List.set_cons_zero, List.set_cons_succ, i64_w, i32_w]
                rfl
              refine pure_ (i := 2) (N := some 62) (v := ?_) (a' := ?_) #[true, true, true, false, false, false, false, false, false, false, false, false, false, false] rfl rfl (any_of HT_.out (by kernel_rfl)) (fun _ _ _ h => h) (Or.inl ⟨by rfl, ?_⟩) ?_ ?_
              rotate_left
              · intro w'
                go_simp
                with_reducible rfl
              rotate_left
              · simp only [Act.put, List.setIfInBounds_toArray, List.set_cons_zero, List.set_cons_succ, i64_w, i32_w]
                rfl
              refine pure_ (i := 4) (N := some 64) (v := ?_) (a' := ?_) #[true, true, true, false, true, false, false, false, false, false, false, false, false, false] rfl rfl (any_of HT_.out (by kernel_rfl)) (fun _ _ _ h => h) (Or.inl ⟨by rfl, ?_⟩) ?_ ?_
              rotate_left
              · intro w'
                go_simp
                with_reducible rfl
              rotate_left
              · simp only [Act.put, List.setIfInBounds_toArray, List.set_cons_zero, List.set_cons_succ, i64_w, i32_w]
                rfl
              refine pure_ (i := 5) (N := some 65) (v := ?_) (a' := ?_) #[true, true, true, false, true, true, false, false, false, false, false, false, false, false] rfl rfl (any_of HT_.out (by kernel_rfl)) (fun _ _ _ h => h) (Or.inl ⟨by rfl, ?_⟩) ?_ ?_
              rotate_left
              · intro w'
                go_simp
                with_reducible rfl
              rotate_left
              · simp only [Act.put, List.setIfInBounds_toArray, List.set_cons_zero, List.set_cons_succ, i64_w, i32_w]
                rfl
              refine pure_ (i := 6) (N := some 66) (v := ?_) (a' := ?_) #[true, true, true, false, true, true, true, false, false, false, false, false, false, false] rfl rfl (any_of HT_.out (by kernel_rfl)) (fun _ _ _ h => h) (Or.inl ⟨by rfl, ?_⟩) ?_ ?_
              rotate_left
              · intro w'
                go_simp
                with_reducible rfl
              rotate_left
              · simp only [Act.put, List.setIfInBounds_toArray, List.set_cons_zero, List.set_cons_succ, i64_w, i32_w]
                rfl
              refine pure_ (i := 7) (N := some 67) (v := ?_) (a' := ?_) #[true, true, true, false, true, true, true, true, false, false, false, false, false, false] rfl rfl (any_of HT_.out (by kernel_rfl)) (fun _ _ _ h => h) (Or.inl ⟨by rfl, ?_⟩) ?_ ?_
              rotate_left
              · intro w'
                go_simp
                with_reducible rfl
              rotate_left
              · simp only [Act.put, List.setIfInBounds_toArray, List.set_cons_zero, List.set_cons_succ, i64_w, i32_w]
                rfl
              refine take_ (i := 3) (N := some 63) (v := ?_) (a' := ?_) #[true, true, true, true, true, true, true, true, false, false, false, false, false, false] rfl rfl (take_ofW HT_.out HW_.out (by kernel_rfl)) (fun _ _ _ h => h) (Or.inl ⟨by rfl, ?_⟩) hHeld ?_ ?_
              rotate_left
              · rintro w' ⟨s0, s1⟩
                refine Eq.trans (Jb.exec_load (by rfl) (by rfl) s0) ?_
                with_reducible rfl
              rotate_left
              · simp only [Act.put, List.setIfInBounds_toArray, List.set_cons_zero, List.set_cons_succ, i64_w, i32_w]
                rfl
              refine take_ (i := 8) (N := some 68) (v := ?_) (a' := ?_) #[true, true, true, true, true, true, true, true, true, false, false, false, false, false] rfl rfl (take_ofW HT_.out HW_.out (by kernel_rfl)) (fun _ _ _ h => h) (Or.inl ⟨by rfl, ?_⟩) hHeld ?_ ?_
              rotate_left
              · rintro w' ⟨s0, s1⟩
                go_simp
                with_reducible rfl
              rotate_left
              · simp only [Act.put, List.setIfInBounds_toArray, List.set_cons_zero, List.set_cons_succ, i64_w, i32_w]
                rfl
              refine join_ (σ := Nat) 2 #[true, true, true, true, true, true, true, true, true, true, true, true, false, false] (fun s => [(69, .int .i64 k2), (70, .int .u8 (IntKind.u8.wrap (k2 : Int))), (12, .pointer (some ⟨s, 0, none⟩))]) (fun s w' => Below w5.heap.size w5 w' ∧ w5.heap.size ≤ s ∧ Jb.JBox w' s z43 none 0) ?_ ?_
              rotate_left
              · intro hCont
                refine two_ (i := 9) (j := 11) (Ni := some 69) (Nj := some 12) #[true, true, true, true, true, true, true, true, true, true, false, false, false, false] #[true, true, true, true, true, true, true, true, true, false, false, true, false, false] rfl rfl rfl rfl (two_of HT_.out (by kernel_rfl)) (by decide) (by decide) (fun K hK => ?_) (fun K hK => ?_)
                · skip
                  refine goes_ Try.func25 (by kernel_rfl) rfl #[.int .i64 t.2, .int .i64 10] (by rfl) rfl rfl (by simp only [List.map_toArray, List.map_cons, List.map_nil]; rfl) ?_
                  with_reducible refine (HPK.out _).mono ?_
                  rintro e w6 ⟨rfl, hd⟩
                  refine ⟨_, rfl, ?_⟩
                  replace HB5 := Lib.hid (below_then HB5.out HB5.out.size hd.below)
                  clear hd
                  refine hK.out _ _ ⟨HL1.out _ HB5.out, HX1.out _ HB5.out⟩ (fun hHeld => ?_)
                  clear hK K
                  refine norm_ (a' := ?_) ?_ ?_
                  rotate_left
                  · show Act.put _ (some 69) _ = _
                    simp only [Act.put, List.setIfInBounds_toArray, List.set_cons_zero, List.set_cons_succ, i64_w, i32_w]
                    rfl
                  refine pure_ (i := 10) (N := some 70) (v := ?_) (a' := ?_) #[true, true, true, true, true, true, true, true, true, true, true, false, false, false] rfl rfl (any_of HT_.out (by kernel_rfl)) (fun _ _ _ h => h) (Or.inl ⟨by rfl, ?_⟩) ?_ ?_
                  rotate_left
                  · intro w'
                    go_simp
                    with_reducible rfl
                  rotate_left
                  · simp only [Act.put, List.setIfInBounds_toArray, List.set_cons_zero, List.set_cons_succ, i64_w, i32_w]
                    rfl
                  refine one_ (i := 11) (N := some 12) #[true, true, true, true, true, true, true, true, true, true, true, true, false, false] rfl rfl (one_of HT_.out (by kernel_rfl)) (by decide) (fun K hK => ?_)
                  refine value_ (w1 := ?_) (v := ?_) (by rfl) rfl ?_ ?_
                  rotate_left 2
                  · go_simp
                    constructor
                    · rfl
                    · rfl
                  have HZ := Lib.hid (blk_new w6 (.cells (Jb.jobC z43 none 0) 43))
                  have HG := Lib.hid HB5.out.size
                  replace HB5 := Lib.hid (below_then HB5.out HB5.out.size (below_alloc (Below.refl _ _) (.cells (Jb.jobC z43 none 0) 43)))
                  refine hK.out _ _ ⟨HL1.out _ HB5.out, HX1.out _ HB5.out⟩ (fun hHeld => ?_)
                  clear hK K
                  refine norm_ (a' := ?_) ?_ ?_
                  rotate_left
                  · show Act.put _ (some 12) _ = _
                    simp only [Act.put, List.setIfInBounds_toArray, List.set_cons_zero, List.set_cons_succ, i64_w, i32_w]
                    rfl
                  exact norm_ (by simp only [putAll, Act.put, List.setIfInBounds_toArray, List.set_cons_zero, List.set_cons_succ]) (hCont w6.heap.size _ ⟨HB5.out, HG.out, HZ.out⟩)
                · skip
                  refine value_ (w1 := ?_) (v := ?_) (by rfl) rfl ?_ ?_
                  rotate_left 2
                  · go_simp
                    constructor
                    · rfl
                    · rfl
                  have HZ := Lib.hid (blk_new w5.drew (.cells (Jb.jobC z43 none 0) 43))
                  have HG := Lib.hid HB5.out.size
                  replace HB5 := Lib.hid (below_then HB5.out HB5.out.size (below_alloc (Below.refl _ _) (.cells (Jb.jobC z43 none 0) 43)))
                  refine hK.out _ _ ⟨HL1.out _ HB5.out, HX1.out _ HB5.out⟩ (fun hHeld => ?_)
                  clear hK K
                  refine norm_ (a' := ?_) ?_ ?_
                  rotate_left
                  · show Act.put _ (some 12) _ = _
                    simp only [Act.put, List.setIfInBounds_toArray, List.set_cons_zero, List.set_cons_succ, i64_w, i32_w]
                    rfl
                  refine one_ (i := 9) (N := some 69) #[true, true, true, true, true, true, true, true, true, true, false, true, false, false] rfl rfl (one_of HT_.out (by kernel_rfl)) (by decide) (fun K hK => ?_)
                  refine goes_ Try.func25 (by kernel_rfl) rfl #[.int .i64 t.2, .int .i64 10] (by rfl) rfl rfl (by simp only [List.map_toArray, List.map_cons, List.map_nil]; rfl) ?_
                  with_reducible refine (HPK.out _).mono ?_
                  rintro e w6 ⟨rfl, hd⟩
                  refine ⟨_, rfl, ?_⟩
                  replace HZ := Lib.hid (blk_below HZ.out hd.below)
                  replace HB5 := Lib.hid (below_then HB5.out HB5.out.size hd.below)
                  clear hd
                  refine hK.out _ _ ⟨HL1.out _ HB5.out, HX1.out _ HB5.out⟩ (fun hHeld => ?_)
                  clear hK K
                  refine norm_ (a' := ?_) ?_ ?_
                  rotate_left
                  · show Act.put _ (some 69) _ = _
                    simp only [Act.put, List.setIfInBounds_toArray, List.set_cons_zero, List.set_cons_succ, i64_w, i32_w]
                    rfl
                  refine pure_ (i := 10) (N := some 70) (v := ?_) (a' := ?_) #[true, true, true, true, true, true, true, true, true, true, true, true, false, false] rfl rfl (any_of HT_.out (by kernel_rfl)) (fun _ _ _ h => h) (Or.inl ⟨by rfl, ?_⟩) ?_ ?_
                  rotate_left
                  · intro w'
                    go_simp
                    with_reducible rfl
                  rotate_left
                  · simp only [Act.put, List.setIfInBounds_toArray, List.set_cons_zero, List.set_cons_succ, i64_w, i32_w]
                    rfl
                  exact norm_ (by simp only [putAll, Act.put, List.setIfInBounds_toArray, List.set_cons_zero, List.set_cons_succ]) (hCont w5.heap.size _ ⟨HB5.out, HG.out, HZ.out⟩)
              rintro b12 w7 ⟨hB7, hg7, hz7⟩
              have hHeld : (Instr.loadAt 43 (.pointer (some (ad1.add (k * 17))))).run Try.prog w7 = .ok (Jb.jobV x B e) w7 ∧ w7.cell? ⟨(ad.add (j * 2)).block, (ad.add (j * 2)).off + 1, none⟩ = some (.int .i64 t.2) := ⟨HL1.out _ hB7, HX1.out _ hB7⟩
              replace HB5 := Lib.hid hB7
              have HG := Lib.hid hg7
              have HZ := Lib.hid hz7
              clear hB7 hg7 hz7
              refine norm_ (a' := ?_) ?_ ?_
              rotate_left
              · simp only [putAll, Act.put, List.setIfInBounds_toArray, List.set_cons_zero, List.set_cons_succ]
                rfl
              refine one_ (i := 12) (N := none) #[true, true, true, true, true, true, true, true, true, true, true, true, true, false] rfl rfl (one_of HT_.out (by kernel_rfl)) (by decide) (fun K hK => ?_)
              refine skip_ (w1 := ?_) (by rfl) rfl ?_ ?_
              rotate_left
              · refine Jb.exec_store (t := 43) (p := .tmp 12) (v := .tmp 63) (g := b12) (cells := Jb.jobC x B e) ?_ ?_ ?_ HZ.out Jb.job_info rfl (Jb.jobC_one _ _ _)
                all_goals rfl
              have HKB := Lib.hid (show Jb.JBox (World.setRow w7 b12 (Jb.jobC x B e)) b12 x B e from setRow_heap _ _ _ (Jb.jobC x B e) _ _ HZ.out)
              replace HB5 := Lib.hid (below_setRow HB5.out HG.out (Jb.jobC x B e))
              refine hK.out _ _ ⟨HL1.out _ HB5.out, HX1.out _ HB5.out⟩ (fun hHeld => ?_)
              clear hK K
              refine pure_ (i := 13) (N := some 13) (v := ?_) (a' := ?_) #[true, true, true, true, true, true, true, true, true, true, true, true, true, true] rfl rfl (any_of HT_.out (by kernel_rfl)) (fun _ _ _ h => h) (Or.inl ⟨by rfl, ?_⟩) ?_ ?_
              rotate_left
              · intro w'
                go_simp
                with_reducible rfl
              rotate_left
              · simp only [Act.put, List.setIfInBounds_toArray, List.set_cons_zero, List.set_cons_succ, i64_w, i32_w]
                rfl
              refine done_ (done_of HT_.out (by kernel_rfl)) ?_
              
              obtain ⟨st, hst⟩ : ∃ s : Int, s = IntKind.u8.wrap (k2 : Int) := ⟨_, rfl⟩
              rw [← hst]
              obtain ⟨W8, hW8⟩ : ∃ W, W = w7.setRow b12 (Jb.jobC x B e) := ⟨_, rfl⟩
              rw [← hW8] at HB5 HKB ⊢
              clear hst hW8 hHeld HPK HZ
              as_aux_lemma =>
              have hld := Jb.JBox.load HKB.out
              go_wp2_with ((with_reducible refine gate_ (.load 43 (.tmp 12)) rfl ?_); refine Jb.wl_load 43 (.tmp 12) rfl rfl _ _ rfl hld ?_)
              refine (Jb.finish_callsR st 0 1099511627776 HX.out B e _ ⟨HV.out.1, Kd.C_below HV.out.2 HB5.out⟩).mono ?_
              rintro e1 w9 ⟨A2, c20, he, _, hR2, hb⟩
              obtain ⟨⟨N, eN⟩, hp⟩ : ∃ p, p = Jb.finishJ x st 0 1099511627776 := ⟨_, rfl⟩
              rw [← hp] at he hR2
              replace he : e1 = .returned (.tuple #[.agg #[.int .i64 N.f0, .int .i64 N.f1, .int .i64 N.f2, .string N.f3.f0, .string N.f3.f1, .string N.f3.f2, .string N.f3.f3, .int .i64 N.f3.f4, .int .i64 N.f3.f5, .int .i64 N.f3.f6, .slice A2 N.f3.f7.length c20, .int .u8 N.f4, .int .i64 N.f5, .int .i64 N.f6, .int .i64 N.f7, .int .u32 N.f8, .int .i64 N.f9], .int .i64 eN]) := he
              subst he
              replace hp := Lib.hid hp
              have RN0 := Kd.R_lower hR2 HB5.out.size
              have HS8 := Lib.hid HB5.out.size
              replace HB5 := Lib.hid (below_then HB5.out HB5.out.size hb)
              replace HKB := Lib.hid (HKB.out.keep hb)
              clear hb hR2 hld
              go_upto_region 14 with (fail)
              generalize hWD : w9.alloc (.cells _ 43) = W10
              obtain ⟨b14, hb14⟩ : ∃ b, b = w9.heap.size := ⟨_, rfl⟩
              rw [← hb14]
              have hk10 : Below w9.heap.size w9 W10 := by rw [← hWD]; exact below_alloc (Below.refl _ _) _
              have hz9 := HB5.out.size
              have hl12 := blk_lt HKB.out
              have HNE : Hid (b12 ≠ b14 ∧ w5.heap.size ≤ b14) := Lib.hid ⟨by omega, by omega⟩
              have HN : Hid (Jb.JBox W10 b14 N A2 c20) := Lib.hid (by rw [← hWD, hb14]; exact blk_new _ _)
              have RN := Lib.hid (Kd.R_mono (Kd.R_below (Kd.R_elderB RN0 b14 (by omega)) hk10) (fun _ h => h.2))
              replace HKB := Lib.hid (HKB.out.keep hk10)
              replace HB5 := Lib.hid (below_then HB5.out HB5.out.size hk10)
              clear hWD hb14 hk10 hz9 hl12 RN0
              go_upto_if 78 with (fail)
              go_cut [15] (fun v15 wc => ∃ (p : S43) (ep : Int) (A3 : Option Addr) (c3 : Nat), v15 = .int .i64 ep ∧ Hid (ep = 0 → Goes ks k p ∧ Jb.JOk p) ∧ Hid (Jb.JBox wc b14 p A3 c3) ∧ Hid (Kd.R k104 104 wc w5.heap.size (fun q => q ≠ b14) (.slice A3 p.f3.f7.length c3) p.f3.f7) ∧ Hid (Below w5.heap.size w5 wc))
              case first =>
                as_aux_lemma =>
                by_cases hs2 : st = 2
                · subst hs2
                  clear RN
                  have HON := Lib.hid (onOf_ok x.f3.f4)
                  go_upto_region 15 with (fail)
                  have HKD : Hid (Jb.JBox W10.drew b12 x B e) := Lib.hid (blk_drew HKB.out)
                  have HND : Hid (Jb.JBox W10.drew b14 N A2 c20) := Lib.hid (blk_drew HN.out)
                  have HB8 := Lib.hid (below_drew1 HB5.out)
                  clear HKB HN HB5
                  have HKB := HKD
                  have HN := HND
                  clear HKD HND
                  refine start_ (n := 17) (S := fun w' => w'.cell? ⟨b12, 7, none⟩ = some (.int .i64 x.f3.f4) ∧ w'.cell? ⟨b12, 12, none⟩ = some (.int .i64 x.f5) ∧ Jb.JBox w' b12 x B e) (ds := []) #[false, false, false, false, false, false, false, false, false, false, false, false, false, false, false, false, false] (by kernel_rfl) rfl rfl ⟨Jb.JBox.cell HKB.out 7 rfl, Jb.JBox.cell HKB.out 12 rfl, HKB.out⟩ (fun hHeld => ?_)
                  refine with_tabW musterlaw20_DepsSettle.tab15 musterlaw20_DepsSettle.bits15 (fun HT_ HW_ => ?_)
                  refine pure_ (i := 1) (N := some 81) (v := ?_) (a' := ?_) #[false, true, false, false, false, false, false, false, false, false, false, false, false, false, false, false, false] rfl rfl (any_of HT_.out (by kernel_rfl)) (fun _ _ _ h => h) (Or.inl ⟨by rfl, ?_⟩) ?_ ?_
                  rotate_left
                  · intro w'
                    go_simp
                    with_reducible rfl
                  rotate_left
                  · simp only [Act.put, List.setIfInBounds_toArray, List.set_cons_zero, List.set_cons_succ, i64_w, i32_w]
                    rfl
                  refine pure_ (i := 2) (N := some 82) (v := ?_) (a' := ?_) #[false, true, true, false, false, false, false, false, false, false, false, false, false, false, false, false, false] rfl rfl (any_of HT_.out (by kernel_rfl)) (fun _ _ _ h => h) (Or.inl ⟨by rfl, ?_⟩) ?_ ?_
                  rotate_left
                  · intro w'
                    go_simp
                    with_reducible rfl
                  rotate_left
                  · simp only [Act.put, List.setIfInBounds_toArray, List.set_cons_zero, List.set_cons_succ, i64_w, i32_w]
                    rfl
                  refine pure_ (i := 8) (N := some 88) (v := ?_) (a' := ?_) #[false, true, true, false, false, false, false, false, true, false, false, false, false, false, false, false, false] rfl rfl (any_of HT_.out (by kernel_rfl)) (fun _ _ _ h => h) (Or.inl ⟨by rfl, ?_⟩) ?_ ?_
                  rotate_left
                  · intro w'
                    go_simp
                    with_reducible rfl
                  rotate_left
                  · simp only [Act.put, List.setIfInBounds_toArray, List.set_cons_zero, List.set_cons_succ, i64_w, i32_w]
                    rfl
                  refine take_ (i := 0) (N := some 80) (v := ?_) (a' := ?_) #[true, true, true, false, false, false, false, false, true, false, false, false, false, false, false, false, false] rfl rfl (take_ofW HT_.out HW_.out (by kernel_rfl)) (fun _ _ _ h => h) (Or.inl ⟨by rfl, ?_⟩) hHeld ?_ ?_
                  rotate_left
                  · rintro w' ⟨s0, s1, s2⟩
                    refine Eq.trans (Jb.exec_load (by rfl) (by rfl) (Jb.JBox.load s2)) ?_
                    with_reducible rfl
                  rotate_left
                  · simp only [Act.put, List.setIfInBounds_toArray, List.set_cons_zero, List.set_cons_succ, i64_w, i32_w]
                    rfl
                  refine take_ (i := 3) (N := some 83) (v := ?_) (a' := ?_) #[true, true, true, true, false, false, false, false, true, false, false, false, false, false, false, false, false] rfl rfl (take_ofW HT_.out HW_.out (by kernel_rfl)) (fun _ _ _ h => h) (Or.inl ⟨by rfl, ?_⟩) hHeld ?_ ?_
                  rotate_left
                  · rintro w' ⟨s0, s1, s2⟩
                    clear s2
                    go_simp
                    with_reducible rfl
                  rotate_left
                  · simp only [Act.put, List.setIfInBounds_toArray, List.set_cons_zero, List.set_cons_succ, i64_w, i32_w]
                    rfl
                  refine pure_ (i := 4) (N := some 84) (v := ?_) (a' := ?_) #[true, true, true, true, true, false, false, false, true, false, false, false, false, false, false, false, false] rfl rfl (any_of HT_.out (by kernel_rfl)) (fun _ _ _ h => h) (Or.inl ⟨by rfl, ?_⟩) ?_ ?_
                  rotate_left
                  · intro w'
                    go_simp
                    with_reducible rfl
                  rotate_left
                  · simp only [Act.put, List.setIfInBounds_toArray, List.set_cons_zero, List.set_cons_succ, i64_w, i32_w]
                    rfl
                  refine pure_ (i := 5) (N := some 85) (v := ?_) (a' := ?_) #[true, true, true, true, true, true, false, false, true, false, false, false, false, false, false, false, false] rfl rfl (any_of HT_.out (by kernel_rfl)) (fun _ _ _ h => h) (Or.inl ⟨by rfl, ?_⟩) ?_ ?_
                  rotate_left
                  · intro w'
                    go_simp
                    with_reducible rfl
                  rotate_left
                  · simp only [Act.put, List.setIfInBounds_toArray, List.set_cons_zero, List.set_cons_succ, i64_w, i32_w]
                    rfl
                  refine pure_ (i := 6) (N := some 86) (v := ?_) (a' := ?_) #[true, true, true, true, true, true, true, false, true, false, false, false, false, false, false, false, false] rfl rfl (any_of HT_.out (by kernel_rfl)) (fun _ _ _ h => h) (Or.inl ⟨by rfl, ?_⟩) ?_ ?_
                  rotate_left
                  · intro w'
                    go_simp
                    with_reducible rfl
                  rotate_left
                  · simp only [Act.put, List.setIfInBounds_toArray, List.set_cons_zero, List.set_cons_succ, i64_w, i32_w]
                    rfl
                  refine pure_ (i := 7) (N := some 87) (v := ?_) (a' := ?_) #[true, true, true, true, true, true, true, true, true, false, false, false, false, false, false, false, false] rfl rfl (any_of HT_.out (by kernel_rfl)) (fun _ _ _ h => h) (Or.inl ⟨by rfl, ?_⟩) ?_ ?_
                  rotate_left
                  · intro w'
                    go_simp
                    with_reducible rfl
                  rotate_left
                  · simp only [Act.put, List.setIfInBounds_toArray, List.set_cons_zero, List.set_cons_succ, i64_w, i32_w]
                    rfl
                  refine take_ (i := 9) (N := some 89) (v := ?_) (a' := ?_) #[true, true, true, true, true, true, true, true, true, true, false, false, false, false, false, false, false] rfl rfl (take_ofW HT_.out HW_.out (by kernel_rfl)) (fun _ _ _ h => h) (Or.inl ⟨by rfl, ?_⟩) hHeld ?_ ?_
                  rotate_left
                  · rintro w' ⟨s0, s1, s2⟩
                    clear s2
                    go_simp
                    with_reducible rfl
                  rotate_left
                  · simp only [Act.put, List.setIfInBounds_toArray, List.set_cons_zero, List.set_cons_succ, i64_w, i32_w]
                    rfl
                  refine pure_ (i := 10) (N := some 90) (v := ?_) (a' := ?_) #[true, true, true, true, true, true, true, true, true, true, true, false, false, false, false, false, false] rfl rfl (any_of HT_.out (by kernel_rfl)) (fun _ _ _ h => h) (Or.inl ⟨by rfl, ?_⟩) ?_ ?_
                  rotate_left
                  · intro w'
                    go_simp
                    with_reducible rfl
                  rotate_left
                  · simp only [Act.put, List.setIfInBounds_toArray, List.set_cons_zero, List.set_cons_succ, i64_w, i32_w]
                    rfl
                  refine one_ (i := 11) (N := some 91) #[true, true, true, true, true, true, true, true, true, true, true, true, false, false, false, false, false] rfl rfl (one_of HT_.out (by kernel_rfl)) (by decide) (fun K hK => ?_)
                  have HJV : Hid (Jb.JV W10.drew x B e) := Lib.hid (And.intro HV.out.1 (Kd.C_below HV.out.2 HB8.out))
                  refine goes_ Try.func27 (by kernel_rfl) rfl #[Jb.jobV x B e, .int .u32 (onOf x.f3.f4), .int .i64 (nowOf x.f5)] (by rfl) rfl rfl (by simp only [List.map_toArray, List.map_cons, List.map_nil]; rfl) ?_
                  with_reducible refine (Jb.begin_callsR (nowOf x.f5) HX.out HON.out B e _ HJV.out).mono ?_
                  rintro er w9 ⟨A3, c3, he, _, hR3, hb⟩
                  obtain ⟨⟨y, ey⟩, hy⟩ : ∃ p, p = Jb.beginJ x (onOf x.f3.f4) (nowOf x.f5) := ⟨_, rfl⟩
                  rw [← hy] at he hR3
                  replace hy := Lib.hid hy
                  replace he : er = .returned (.tuple #[Jb.jobV y A3 c3, .int .i64 ey]) := he
                  subst he
                  refine ⟨_, rfl, ?_⟩
                  have RB := Lib.hid (Kd.R_newB (Kd.R_newB hR3 HKB.out) HN.out)
                  have HS8 := Lib.hid HB8.out.size
                  replace HB8 := Lib.hid (below_then HB8.out HB8.out.size hb)
                  replace HKB := Lib.hid (HKB.out.keep hb)
                  replace HN := Lib.hid (HN.out.keep hb)
                  clear hb hR3
                  refine hK.out _ _ ⟨Jb.JBox.cell HKB.out 7 rfl, Jb.JBox.cell HKB.out 12 rfl, HKB.out⟩ (fun hHeld => ?_)
                  clear hK K
                  refine norm_ (a' := ?_) ?_ ?_
                  rotate_left
                  · show Act.put _ (some 91) _ = _
                    simp only [Act.put, List.setIfInBounds_toArray, List.set_cons_zero, List.set_cons_succ, i64_w, i32_w]
                    rfl
                  refine pure_ (i := 12) (N := some 79) (v := ?_) (a' := ?_) #[true, true, true, true, true, true, true, true, true, true, true, true, true, false, false, false, false] rfl rfl (any_of HT_.out (by kernel_rfl)) (fun _ _ _ h => h) (Or.inl ⟨by rfl, ?_⟩) ?_ ?_
                  rotate_left
                  · intro w'
                    go_simp
                    with_reducible rfl
                  rotate_left
                  · simp only [Act.put, List.setIfInBounds_toArray, List.set_cons_zero, List.set_cons_succ, i64_w, i32_w]
                    rfl
                  refine pure_ (i := 13) (N := some 92) (v := ?_) (a' := ?_) #[true, true, true, true, true, true, true, true, true, true, true, true, true, true, false, false, false] rfl rfl (any_of HT_.out (by kernel_rfl)) (fun _ _ _ h => h) (Or.inl ⟨by rfl, ?_⟩) ?_ ?_
                  rotate_left
                  · intro w'
                    go_simp
                    with_reducible rfl
                  rotate_left
                  · simp only [Act.put, List.setIfInBounds_toArray, List.set_cons_zero, List.set_cons_succ, i64_w, i32_w]
                    rfl
                  refine pure_ (i := 14) (N := some 93) (v := ?_) (a' := ?_) #[true, true, true, true, true, true, true, true, true, true, true, true, true, true, true, false, false] rfl rfl (any_of HT_.out (by kernel_rfl)) (fun _ _ _ h => h) (Or.inl ⟨by rfl, ?_⟩) ?_ ?_
                  rotate_left
                  · intro w'
                    go_simp
                    with_reducible rfl
                  rotate_left
                  · simp only [Act.put, List.setIfInBounds_toArray, List.set_cons_zero, List.set_cons_succ, i64_w, i32_w]
                    rfl
                  refine one_ (i := 15) (N := none) #[true, true, true, true, true, true, true, true, true, true, true, true, true, true, true, true, false] rfl rfl (one_of HT_.out (by kernel_rfl)) (by decide) (fun K hK => ?_)
                  refine skip_ (w1 := ?_) (by rfl) rfl ?_ ?_
                  rotate_left
                  · refine Jb.exec_store (t := 43) (p := .tmp 14) (v := .tmp 92) (g := b14) (cells := Jb.jobC y A3 c3) ?_ ?_ ?_ HN.out Jb.job_info rfl (Jb.jobC_one _ _ _)
                    all_goals rfl
                  replace RB := Lib.hid (Kd.R_step (w1 := World.setRow w9 b14 (Jb.jobC y A3 c3)) RB.out (fun q hq _ => setRow_other _ _ q _ hq.2))
                  replace HKB := Lib.hid ((setRow_other w9 b14 b12 (Jb.jobC y A3 c3) HNE.out.1).trans HKB.out)
                  replace HB8 := Lib.hid (below_setRow HB8.out HNE.out.2 (Jb.jobC y A3 c3))
                  replace HN := Lib.hid (setRow_heap _ _ _ (Jb.jobC y A3 c3) _ _ HN.out)
                  refine hK.out _ _ ⟨Jb.JBox.cell HKB.out 7 rfl, Jb.JBox.cell HKB.out 12 rfl, HKB.out⟩ (fun hHeld => ?_)
                  clear hK K
                  refine pure_ (i := 16) (N := some 15) (v := ?_) (a' := ?_) #[true, true, true, true, true, true, true, true, true, true, true, true, true, true, true, true, true] rfl rfl (any_of HT_.out (by kernel_rfl)) (fun _ _ _ h => h) (Or.inl ⟨by rfl, ?_⟩) ?_ ?_
                  rotate_left
                  · intro w'
                    go_simp
                    with_reducible rfl
                  rotate_left
                  · simp only [Act.put, List.setIfInBounds_toArray, List.set_cons_zero, List.set_cons_succ, i64_w, i32_w]
                    rfl
                  refine done_ (done_of HT_.out (by kernel_rfl)) ?_
                  
                  try go_wp2
                  all_goals
                    go_meet
                    case rel => exact ⟨y, ey, A3, c3, rfl, Lib.hid (fun hz => by
                      have hf : (Jb.beginJ x (onOf x.f3.f4) (nowOf x.f5)).2 = 0 := by rw [← hy.out]; exact hz
                      obtain ⟨q1, q2, q3, q4, q5, q6⟩ := Jb.begin_ok hf
                      rw [← hy.out] at q1
                      replace q1 : y = _ := q1
                      rw [q1]
                      exact ⟨⟨HKL.out, by rw [hx.out], by rw [← hx.out]; exact decide_eq_false (by omega)⟩, ⟨HON.out, HX.out.2⟩⟩), HN, Lib.hid (Kd.R_mono (Kd.R_lower RB.out HS8.out) (fun _ h => h.2)), HB8⟩
                · have hs2b : (st == 2) = false := beq_eq_false_iff_ne.2 hs2
                  clear hs2
                  go_wp2
                  go_meet
                  case rel => exact ⟨N, eN, A2, c20, rfl, Lib.hid (fun hz => by
                    have hf : (Jb.finishJ x st 0 1099511627776).2 = 0 := by rw [← hp.out]; exact hz
                    obtain ⟨q1, q2, q3, q4, q5, q6⟩ := Jb.finish_ok hf
                    rw [← hp.out] at q1
                    replace q1 : N = _ := q1
                    rw [q1]
                    exact ⟨⟨HKL.out, by rw [hx.out], by rw [← hx.out]; exact decide_eq_false (by omega)⟩, ⟨HX.out.1, HX.out.2⟩⟩), HN, RN, HB5⟩
              case rest =>
                as_aux_lemma =>
                clear HN RN HKB HB5 hp HV HX hx
                obtain ⟨p, ep, A3, c3, rfl, HGO, HN, RN, HB5⟩ := hcut
                have LWc := Lib.hid (LW.out.keep HB5.out)
                obtain ⟨g, rfl⟩ := Kd.R_head LWc.out.1
                go_upto_if 95 with (fail)
                go_cut [] (fun wc2 => ∃ (hs : List S43), hs.length = js.length ∧ Hid (hs = ks ∨ ∃ y, Goes ks k y ∧ hs = ks.set k y) ∧ Hid (JsOk hs) ∧ Hid (LS w (some ⟨g, 0, none⟩) c' hs wc2))
                case first =>
                  as_aux_lemma =>
                  by_cases hz : ep = 0
                  · subst hz
                    have hz2 : ((0 : Int) == 0) = true := rfl
                    obtain ⟨c0, hcl, _, hcc, _⟩ := Kd.R_elem LWc.out.1 z43 (k : Int) p2 (by omega)
                    obtain ⟨g1, cap1, hv1, _, _, cells1, hc1⟩ := Kd.R_form LWc.out.1 (by omega)
                    obtain rfl : g = g1 := by simp at hv1; exact hv1.1
                    have hM := k43_mkM wc w.heap.size _ p (Kd.R_lower (Kd.R_types RN.out hc1 (by decide)) (by have := LW.out.2.size; exact this))
                    have hone := k43.K_one (k43.K_of_M hM)
                    replace hM := Lib.hid hM
                    replace hone := Lib.hid hone
                    have HC := Lib.hid (And.intro hcl hcc)
                    have hkz := Lib.hid (show (k : Int) < (ks.length : Nat) by omega)
                    clear hcl hcc hc1 hv1
                    have hld := Jb.JBox.load HN.out
                    go_upto_region 17 with (fail)
                    go_wp2_with (first | ((with_reducible refine gate_ (.load 43 (.tmp 14)) rfl ?_); refine Jb.wl_load 43 (.tmp 14) rfl rfl _ _ rfl hld ?_) | ((with_reducible refine gate_ (.store 43 (.tmp 99) (.tmp 98)) rfl ?_); refine stop_ ?_))
                    unfold Stop
                    refine Kd.R_store k43 (w0 := w) w.heap.size ?d1 ?d2 43 (.tmp 99) (.tmp 98) ?d3 43 (g := g) (n := ks.length) (cap := c') (o' := k * 17) (k : Int) 0 ks p (Jb.jobV p A3 c3) (Jb.jobC p A3 c3).toList c0 (fun _ => True) (fun q => q ≠ b14 ∧ q ≠ g) ?c1 ?c2 ?c3 ?c4 ?c5 hone.out LWc.out.1 p2 hkz.out HC.out.1 HC.out.2 ?c6 ?c7 ?c8 LWc.out.2 ?_
                    rotate_right
                    intro w12 hO12 hB12 hG12
                    case d1 => rfl
                    case d2 => rfl
                    case d3 => rfl
                    case c1 => rfl
                    case c2 => rw [Int.toNat_natCast]; rfl
                    case c3 => rfl
                    case c4 => rfl
                    case c5 => exact Jb.job_info
                    case c6 => exact Nat.le_refl _
                    case c7 =>
                      rw [List.drop_eq_nil_of_le (by rw [HC.out.1]; exact Nat.le_refl _), List.append_nil]
                      exact hM.out
                    case c8 => exact fun q hq => ⟨trivial, hq.2⟩
                    go_wp2
                    go_meet
                    case rel => exact ⟨ks.set k p, by rw [List.length_set]; exact hlen, Lib.hid (Or.inr ⟨p, (HGO.out trivial).1, rfl⟩), Lib.hid (fun z hz => by
                      rcases List.mem_or_eq_of_mem_set hz with hz | rfl
                      · exact HK.out z hz
                      · exact (HGO.out trivial).2), Lib.hid ⟨by rw [List.length_set]; exact hO12, hB12⟩⟩
                  · have hzb : (ep == 0) = false := beq_eq_false_iff_ne.2 hz
                    clear hz
                    go_wp2
                    go_meet
                    case rel => exact ⟨ks, hlen, Lib.hid (Or.inl rfl), HK, LWc⟩
                case rest =>
                  as_aux_lemma =>
                  clear LWc HN RN HB5 LW
                  obtain ⟨hs, hlen2, HH, HJ2, LW⟩ := hcut
                  have HM2 : Hid ((hv = true → depsHolds l hs = true) ∧ (nv = true → depsNever l hs = true)) := Lib.hid (by
                    rw [HVN.out.1, HVN.out.2]
                    rcases HH.out with rfl | ⟨y, hy, rfl⟩
                    · exact ⟨id, id⟩
                    · exact ⟨goes_holds hy l, goes_never hy l⟩)
                  have HA := holds_calls l A c hs (some ⟨g, 0, none⟩) c' wc (Kd.C_below HL.out.1 LW.out.2) HL.out.2 LW.out.row.1 LW.out.row.2
                  rw [hlen2] at HA
                  replace HA := Lib.hid HA
                  go_wp2_with fail
                  refine HA.out.mono ?_
                  rintro e2 w13 ⟨rfl, hb⟩
                  replace LW := Lib.hid (LW.out.keep hb)
                  clear hb HA
                  have HA := never_calls l A c hs (some ⟨g, 0, none⟩) c' w13 (Kd.C_below HL.out.1 LW.out.2) HL.out.2 LW.out.row.1 LW.out.row.2
                  rw [hlen2] at HA
                  replace HA := Lib.hid HA
                  go_wp2_with fail
                  refine HA.out.mono ?_
                  rintro e3 w14 ⟨rfl, hb⟩
                  replace LW := Lib.hid (LW.out.keep hb)
                  clear hb HA
                  obtain ⟨h2, hh2⟩ : ∃ b, b = depsHolds l hs := ⟨_, rfl⟩
                  obtain ⟨n2, hn2⟩ : ∃ b, b = depsNever l hs := ⟨_, rfl⟩
                  rw [← hh2, ← hn2] at HM2 ⊢
                  have HE := Lib.hid (And.intro hh2 hn2)
                  clear hh2 hn2
                  cases hv <;> cases nv <;> cases h2 <;> cases n2
                  all_goals
                    first
                    | (exfalso; have hx := HM2.out.1 rfl; cases hx; done)
                    | (exfalso; have hx := HM2.out.2 rfl; cases hx; done)
                    | (go_wp2
                       go_roundw
                       case rel => exact ⟨hs, j + 1, by omega, by omega, hlen2, by rw [← HE.out.1], by rw [← HE.out.2], by go_num, HJ2, LW⟩
                       case measure => simp [intOf]; omega)
        · have q6 : ¬ (j : Int) < 60 := hlt6
          go_wp2_with fail
          refine (awake20_calls _).mono ?_
          rintro e w5 ⟨rfl, hb⟩
          replace LW := Lib.hid (LW.out.keep hb)
          clear hb
          go_wp2
          go_ret
          exact ⟨rfl, LW.out.2⟩
      ·
        go_wp2_with fail
        refine (awake20_calls _).mono ?_
        rintro e w5 ⟨rfl, hb⟩
        replace LW := Lib.hid (LW.out.keep hb)
        clear hb
        go_wp2
        go_ret
        exact ⟨rfl, LW.out.2⟩
  · have HB := Lib.hid (Below.refl w.heap.size w)
    by_cases q1 : (60 : Int) < (js.length : Int)
    · go_wp2_with fail
      refine (awake20_calls _).mono ?_
      rintro e w1 ⟨rfl, hb⟩
      have HB1 := Lib.hid hb
      clear hb
      go_wp2
      go_ret
      exact ⟨rfl, HB1.out⟩
    · have q2 : (60 : Int) < (l.length : Int) := by omega
      go_wp2_with fail
      refine (awake20_calls _).mono ?_
      rintro e w1 ⟨rfl, hb⟩
      have HB1 := Lib.hid hb
      clear hb
      go_wp2
      go_ret
      exact ⟨rfl, HB1.out⟩
end Go.Proofs.Ythcikldhlohjbaa.PS
