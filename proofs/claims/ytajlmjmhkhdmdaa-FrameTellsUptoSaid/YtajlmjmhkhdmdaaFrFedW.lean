/- fed, walked. -/
import Derived.Test.YtajlmjmhkhdmdaaFrFed
import Derived.Test.YtajlmjmhkhdmdaaPFx2
set_option linter.unusedVariables false
set_option linter.unusedSimpArgs false
namespace Go.Proofs.Ytajlmjmhkhdmdaa.PF
open Go.RowKit Go.Proofs.YtajlmjmhkhdmdaaW.PrintWords Go.Proofs.YtajlmjmhkhdmdaaW.PrintLast Go.Proofs.YtajlmjmhkhdmdaaW.PrintMore
attribute [local go_sem] max2_int min2_int max_two min_two
theorem pick_any (a : Int) (n : Nat) (h0 : 1 ≤ n) (hn : n ≤ 4398046511104) : ∃ k : Nat, k < n ∧ ∀ w, Calls Try.prog 16 #[.int .i64 a, .int .i64 n] w fun e w' => e = .returned (.int .i64 k) ∧ Drawn0 w w' := by
  have h1 : -(n : Int) < Int.tmod a n ∧ Int.tmod a n < n := by
    have := Int.tmod_lt_of_pos a (show (0 : Int) < n by omega)
    have h2 := Int.tmod_lt_of_pos (-a) (show (0 : Int) < n by omega)
    rw [Int.neg_tmod] at h2
    exact ⟨by omega, this⟩
  by_cases hneg : Int.tmod a n < 0
  · obtain ⟨k, hk⟩ := Int.eq_ofNat_of_zero_le (show 0 ≤ Int.tmod a n + n by omega)
    refine ⟨k, by omega, fun w => musterlow_Pick.calls a n k w ?_⟩
    unfold musterlow_Pick.f
    rw [if_neg (by omega), if_neg (by omega), if_pos hneg]
    congr 1
    unfold wrap64
    omega
  · obtain ⟨k, hk⟩ := Int.eq_ofNat_of_zero_le (show 0 ≤ Int.tmod a n by omega)
    refine ⟨k, by omega, fun w => musterlow_Pick.calls a n k w ?_⟩
    unfold musterlow_Pick.f
    rw [if_neg (by omega), if_neg (by omega), if_neg hneg, hk]
/-- What the loop of fed holds. -/
structure FS (w : World) (bx : Nat) (al p r : List Int) (Ar : Option Addr) (cr : Nat) (v8 : Value) (A : Option Addr) (c : Nat) (wr : World) : Prop where
  eq : al = p ++ r
  rdr : Kd.C ku8 w Ar r.length r
  cap : r.length ≤ cr
  st : St w.heap.size bx (feedF p) v8 A c wr
  bel : Below w.heap.size w wr
/-- What fed answers. -/
def FedAns (w : World) (al : List Int) (e : Ending) (w' : World) : Prop := ∃ Av cv, e = .returned (.tuple #[.slice Av (feedF al).1.length cv, .bool (feedF al).2.1, .int .i64 (feedF al).2.2.length]) ∧ Kd.R k27 27 w' w.heap.size (fun _ => True) (.slice Av (feedF al).1.length cv) (feedF al).1 ∧ Below w.heap.size w w'
set_option maxRecDepth 100000 in
set_option maxHeartbeats 8000000 in
theorem fed_calls (al : List Int) (A : Option Addr) (c : Nat) (S : List Int) (A1 : Option Addr) (c1 : Nat) (w : World) (hr : Kd.C ku8 w A al.length al) (hc : al.length ≤ c) (hr1 : Kd.C (Kd.int .i64) w A1 S.length S) (hc1 : S.length ≤ c1) (hb : Bytes al) (hlen : al.length ≤ 1048576) :
    Calls Try.prog 14 #[.slice A al.length c, .slice A1 S.length c1] w (FedAns w al) := by
  have HA := Lib.hid (And.intro hr (And.intro hc (And.intro hb hlen)))
  have HS1 := Lib.hid (And.intro hr1 hc1)
  have hsl : S.length ≤ 9223372036854775807 := hr1.2.1
  obtain ⟨i0, hi0, _, hz1, _⟩ := info_parts Low.info8
  have HI := Lib.hid (And.intro hi0 hz1)
  clear hr hc hr1 hc1 hb hi0 hz1
  go_enter Try.func14, Try.ntmps14
  go_wp2_with fail
  refine (new_calls _).mono ?_
  rintro e w1 ⟨bx, hbe, rfl, hbx, hb⟩
  have F0 : Hid (FS w bx al [] al A c (.slice none 0 0) none 0 w1) := Lib.hid ⟨rfl, HA.out.1, HA.out.2.1, ⟨hbx, (fun h => by cases h), (fun k hk => by simp [Value.ownBlock] at hk), Kd.R_nil _ _ _ _ _, Kd.R_nil _ _ _ _ _, by omega⟩, hb⟩
  clear hbe hbx hb
  go_wp2
  go_loopw [0, 8, 9, 10] (fun v0 v8 v9 v10 wr => ∃ (p r : List Int) (Ar : Option Addr) (cr i : Nat) (A2 : Option Addr) (c2 : Nat), i ≤ p.length ∧ p.length + r.length ≤ 1048576 ∧ v0 = .slice Ar r.length cr ∧ v9 = .bool (feedF p).2.1 ∧ v10 = .int .i64 i ∧ Hid (FS w bx al p r Ar cr v8 A2 c2 wr)) (fun v0 _ _ _ _ => lenOf v0)
  case atStart => exact ⟨[], al, A, c, 0, none, 0, Nat.le_refl _, by simpa using hlen, rfl, rfl, rfl, F0⟩
  case round =>
    clear F0
    obtain ⟨p, r, Ar, cr, i, A2, c2, hip, hpr, rfl, rfl, rfl, L⟩ := hrel
    by_cases hr0 : r.length = 0
    · as_aux_lemma =>
      obtain rfl : r = [] := List.eq_nil_of_length_eq_zero hr0
      clear hr0
      have HP := Lib.hid (show al = p by rw [L.out.eq, List.append_nil])
      have hl63 : (feedF p).2.2.length ≤ 9223372036854775807 := by
        have h := (feed_left p.length p (Nat.le_refl _) (by rw [← HP.out]; exact HA.out.2.2.1)).1
        simp only [List.length_nil] at hpr
        omega
      have HLf := Lib.hid (left_calls L.out.st.box hl63)
      obtain ⟨brp, hbrp⟩ : ∃ x, x = (feedF p).2.1 := ⟨_, rfl⟩
      obtain ⟨ll, hll⟩ : ∃ x, x = (feedF p).2.2.length := ⟨_, rfl⟩
      rw [← hll] at HLf hl63
      rw [← hbrp]
      obtain ⟨Av, cv, hv⟩ := Kd.R_slice L.out.st.out
      have HV := Lib.hid (And.intro hv (And.intro hbrp hll))
      clear hv hbrp hll
      go_wp2_with fail
      refine HLf.out.mono ?_
      rintro e w' ⟨rfl, rfl⟩
      go_wp2
      go_ret3
      refine ⟨Av, cv, ?_, ?_, L.out.bel⟩
      · show Ending.returned (.tuple #[u8, .bool brp, .int .i64 (ll : Nat)]) = _
        rw [HP.out, ← HV.out.1, ← HV.out.2.1, ← HV.out.2.2]
      · rw [HP.out, ← HV.out.1]
        exact Kd.R_mono L.out.st.out (fun _ _ => trivial)
    · have hr1 : 0 < (r.length : Int) := by omega
      have hrl : r.length ≤ 1048576 := by omega
      have hil : i ≤ 1048576 := by omega
      by_cases hS : (S.length : Int) = 0
      · as_aux_lemma =>
        have hSn : ¬ 0 < S.length := by omega
        have hSz : ¬ (0 : Int) < (S.length : Int) := by omega
        clear hS
        go_upto_region 10 with (fail)
        obtain ⟨m, hm1, hm2, hme⟩ : ∃ m : Nat, 1 ≤ m ∧ m ≤ r.length ∧ (r.length : Int) = (m : Int) := ⟨r.length, by omega, Nat.le_refl _, rfl⟩
        rw [hme]
        clear hme
        have HW := Lib.hid (Below.refl wr.heap.size wr)
        have ex : (r.take m).length = m := by rw [List.length_take]; omega
        have hcut := Low.cut_h (P := Try.prog) 22 5 Try.underlying22 HI.out.1 HI.out.2 Ar r.length cr m (by have := L.out.cap; omega)
        have hcutl : ∀ W, (Instr.slice 22 (.slice Ar r.length cr) (some (.int .i64 (m : Int))) none none).run Try.prog W = .ok (.slice (if cr = m then Ar else Ar.map (·.add m)) (r.length - m) (cr - m)) W := fun W => cut_lK (P := Try.prog) 22 5 Try.underlying22 HI.out.1 HI.out.2 .i64 Ar r.length cr m hm2 W
        have HC9 := drop_C L.out.rdr L.out.cap m hm2
        obtain ⟨B9, hB9⟩ : ∃ B, B = (if cr = m then Ar else Ar.map (·.add m)) := ⟨_, rfl⟩
        obtain ⟨c9, hc9⟩ : ∃ d, d = cr - m := ⟨_, rfl⟩
        rw [← hB9, ← hc9] at hcutl
        rw [← hB9] at HC9
        replace HC9 := Lib.hid (show Kd.C ku8 w B9 (r.drop m).length (r.drop m) ∧ (r.drop m).length ≤ c9 from ⟨HC9, by rw [List.length_drop, hc9]; have := L.out.cap; omega⟩)
        have L2 := Lib.hid (L.out.st.keep HW.out)
        have HB2 := Lib.hid (below_then L.out.bel L.out.bel.size HW.out)
        have hbp : Bytes p := by have h := HA.out.2.2.1; rw [L.out.eq] at h; exact h.left
        have hbr : Bytes r := by have h := HA.out.2.2.1; rw [L.out.eq] at h; exact h.right
        have hlf := feed_left p.length p (Nat.le_refl _) hbp
        have HE := Lib.hid (feedS_of p (r.take m) hbp)
        have H1 := feed_st L2.out HB2.out (r.take m) Ar cr (by rw [ex]; exact Low.take_C (Kd.C_below L.out.rdr HB2.out) m hm2) (by rw [ex]; have := L.out.cap; omega) hlf.2.2.1 (hbr.take m) (by rw [ex]; omega)
        rw [ex] at H1
        replace H1 := Lib.hid H1
        have HX := Lib.hid ex
        have HMono : Hid ((feedF p).2.1 = true → (feedF (p ++ r.take m)).2.1 = true) := Lib.hid (fun h => by rw [HE.out]; unfold feedS; rw [if_pos h]; exact h)
        clear ex hB9 hc9 hbp hbr hlf
        go_wp2_with fail
        refine H1.out.mono ?_
        rintro e w3 ⟨v, ys, A3, c3, he, hys, hst, hv, hb3⟩
        rw [← HE.out] at he hys hst hv
        obtain ⟨Av, cv, rfl⟩ := Kd.R_slice hv
        obtain ⟨q, hq⟩ : ∃ q, q = p ++ r.take m := ⟨_, rfl⟩
        rw [← hq] at he hys hst hv HMono
        have HQ := Lib.hid hq
        have hfc := feed_count q.length q (Nat.le_refl _)
        have hql : q.length = p.length + m := by rw [hq, List.length_append, HX.out]
        rw [hys, List.length_append] at hfc
        have HL2 := Lib.hid (Kd.R_lt L2.out.out)
        have HL3 := Lib.hid (Kd.R_lt hst.left)
        have HRows := Lib.hid (rows_M hv HB2.out.size)
        have HST := Lib.hid hst
        have HYS := Lib.hid hys
        have HB3 := Lib.hid hb3
        obtain ⟨brp, hbrp⟩ : ∃ x, x = (feedF p).2.1 := ⟨_, rfl⟩
        obtain ⟨brq, hbrq⟩ : ∃ x, x = (feedF q).2.1 := ⟨_, rfl⟩
        rw [← hbrp] at HMono ⊢
        rw [← hbrq] at HMono he
        have HBR := Lib.hid hbrq
        clear H1 hq hys hst hv hb3 hbrp hbrq hcut
        subst he
        cases brp <;> cases brq
        all_goals
          first
          | (exfalso; have hxx := HMono.out rfl; cases hxx; done)
          | (go_wp2_with ((with_reducible refine gate_builtin (b := .append) (xs := #[.tmp 48, .tmp 49]) rfl ?_); at_builtin; refine Kd.R_append_rows k27 (Rr := k27.M w3 w.heap.size (fun k => (k ≠ bx ∧ some k ≠ Value.ownBlock (.slice A3 (feedF q).2.2.length c3)) ∧ wr.heap.size ≤ k)) (w0 := w) w.heap.size rfl (.tmp 48) (.tmp 49) 30 27 (.agg #[.int .u8 0, .slice none 0 0]) 32 rfl Try.underlying30 infoFr rfl (by decide) (by omega) u8 (feedF p).1 ys Av ys.length cv (fun k => k ≠ bx ∧ some k ≠ Value.ownBlock (.slice A3 (feedF q).2.2.length c3)) (fun k => (k ≠ bx ∧ some k ≠ Value.ownBlock (.slice A3 (feedF q).2.2.length c3)) ∧ wr.heap.size ≤ k) rfl rfl HST.out.out HRows.out (fun _ _ h => h) (fun k hk => ⟨hk.1, fun he => by have := HL2.out k he.symm; have := hk.2; omega⟩) (fun k hk => ⟨by have := HST.out.box.lt; omega, fun he => by have := HL3.out k he.symm; omega⟩) HB3.out HB3.out.size (by omega) ?_; intro v9 w4 ho hb hg _; have HS9 := Lib.hid (HST.out.append hg ho); have HB9 := Lib.hid hb; clear ho hb hg)
             go_roundw
             case rel => exact ⟨q, r.drop m, B9, c9, i + 1, A3, c3, by omega, by rw [List.length_drop]; omega, by rw [List.length_drop], by rw [← HBR.out], by go_num, Lib.hid ⟨by rw [L.out.eq, HQ.out, List.append_assoc, List.take_append_drop], HC9.out.1, HC9.out.2, by rw [show feedF q = ((feedF p).1 ++ ys, (feedF q).2) from by rw [← HYS.out]]; exact HS9.out, HB9.out⟩⟩
             case measure => simp [lenOf]; omega)
      · have hS1 : 0 < S.length := by omega
        by_cases h400 : (i : Int) < 400
        · skip
          have hsz : ((S.length : Int) == 0) = false := beq_eq_false_iff_ne.2 hS
          have hm1 := Nat.mod_lt i hS1
          obtain ⟨ad, e1, hx⟩ := Kd.at_int HS1.out.1 ((i % S.length : Nat) : Int) (by omega) (by omega)
          cases e1
          replace hx := (L.out.bel.cell (World.block_lt_of_cell? w _ hx)).trans hx
          rw [Int.toNat_natCast] at hx
          generalize rd S ((i % S.length : Nat) : Int) = z at hx
          clear hm1
          have hm0 : 0 ≤ (i : Int) % (S.length : Int) := Int.emod_nonneg _ hS
          have hm1 : (i : Int) % (S.length : Int) < (S.length : Int) := Int.emod_lt_of_pos _ (by omega)
          obtain ⟨k, hk, hpk⟩ := pick_any z 50 (by decide) (by decide)
          have HPK := Lib.hid (show ∀ w, Calls Try.prog 16 #[.int .i64 z, .int .i64 50] w fun e w' => e = .returned (.int .i64 k) ∧ Drawn0 w w' from hpk)
          clear hpk
          go_wp2_with fail
          refine (HPK.out _).mono ?_
          rintro e w2 ⟨rfl, hd⟩
          have HW := Lib.hid hd.below
          clear hd hx hm0 hm1
          by_cases hmin : 1 + (k : Int) < (r.length : Int)
          · as_aux_lemma =>
            go_upto_region 10 with (fail)
            obtain ⟨m, hm1, hm2, hme⟩ : ∃ m : Nat, 1 ≤ m ∧ m ≤ r.length ∧ 1 + (k : Int) = (m : Int) := ⟨1 + k, by omega, by omega, by omega⟩
            rw [hme]
            clear hme
            have ex : (r.take m).length = m := by rw [List.length_take]; omega
            have hcut := Low.cut_h (P := Try.prog) 22 5 Try.underlying22 HI.out.1 HI.out.2 Ar r.length cr m (by have := L.out.cap; omega)
            have hcutl : ∀ W, (Instr.slice 22 (.slice Ar r.length cr) (some (.int .i64 (m : Int))) none none).run Try.prog W = .ok (.slice (if cr = m then Ar else Ar.map (·.add m)) (r.length - m) (cr - m)) W := fun W => cut_lK (P := Try.prog) 22 5 Try.underlying22 HI.out.1 HI.out.2 .i64 Ar r.length cr m hm2 W
            have HC9 := drop_C L.out.rdr L.out.cap m hm2
            obtain ⟨B9, hB9⟩ : ∃ B, B = (if cr = m then Ar else Ar.map (·.add m)) := ⟨_, rfl⟩
            obtain ⟨c9, hc9⟩ : ∃ d, d = cr - m := ⟨_, rfl⟩
            rw [← hB9, ← hc9] at hcutl
            rw [← hB9] at HC9
            replace HC9 := Lib.hid (show Kd.C ku8 w B9 (r.drop m).length (r.drop m) ∧ (r.drop m).length ≤ c9 from ⟨HC9, by rw [List.length_drop, hc9]; have := L.out.cap; omega⟩)
            have L2 := Lib.hid (L.out.st.keep HW.out)
            have HB2 := Lib.hid (below_then L.out.bel L.out.bel.size HW.out)
            have hbp : Bytes p := by have h := HA.out.2.2.1; rw [L.out.eq] at h; exact h.left
            have hbr : Bytes r := by have h := HA.out.2.2.1; rw [L.out.eq] at h; exact h.right
            have hlf := feed_left p.length p (Nat.le_refl _) hbp
            have HE := Lib.hid (feedS_of p (r.take m) hbp)
            have H1 := feed_st L2.out HB2.out (r.take m) Ar cr (by rw [ex]; exact Low.take_C (Kd.C_below L.out.rdr HB2.out) m hm2) (by rw [ex]; have := L.out.cap; omega) hlf.2.2.1 (hbr.take m) (by rw [ex]; omega)
            rw [ex] at H1
            replace H1 := Lib.hid H1
            have HX := Lib.hid ex
            have HMono : Hid ((feedF p).2.1 = true → (feedF (p ++ r.take m)).2.1 = true) := Lib.hid (fun h => by rw [HE.out]; unfold feedS; rw [if_pos h]; exact h)
            clear ex hB9 hc9 hbp hbr hlf
            go_wp2_with fail
            refine H1.out.mono ?_
            rintro e w3 ⟨v, ys, A3, c3, he, hys, hst, hv, hb3⟩
            rw [← HE.out] at he hys hst hv
            obtain ⟨Av, cv, rfl⟩ := Kd.R_slice hv
            obtain ⟨q, hq⟩ : ∃ q, q = p ++ r.take m := ⟨_, rfl⟩
            rw [← hq] at he hys hst hv HMono
            have HQ := Lib.hid hq
            have hfc := feed_count q.length q (Nat.le_refl _)
            have hql : q.length = p.length + m := by rw [hq, List.length_append, HX.out]
            rw [hys, List.length_append] at hfc
            have HL2 := Lib.hid (Kd.R_lt L2.out.out)
            have HL3 := Lib.hid (Kd.R_lt hst.left)
            have HRows := Lib.hid (rows_M hv HB2.out.size)
            have HST := Lib.hid hst
            have HYS := Lib.hid hys
            have HB3 := Lib.hid hb3
            obtain ⟨brp, hbrp⟩ : ∃ x, x = (feedF p).2.1 := ⟨_, rfl⟩
            obtain ⟨brq, hbrq⟩ : ∃ x, x = (feedF q).2.1 := ⟨_, rfl⟩
            rw [← hbrp] at HMono ⊢
            rw [← hbrq] at HMono he
            have HBR := Lib.hid hbrq
            clear H1 hq hys hst hv hb3 hbrp hbrq hcut
            subst he
            cases brp <;> cases brq
            all_goals
              first
              | (exfalso; have hxx := HMono.out rfl; cases hxx; done)
              | (go_wp2_with ((with_reducible refine gate_builtin (b := .append) (xs := #[.tmp 48, .tmp 49]) rfl ?_); at_builtin; refine Kd.R_append_rows k27 (Rr := k27.M w3 w.heap.size (fun k => (k ≠ bx ∧ some k ≠ Value.ownBlock (.slice A3 (feedF q).2.2.length c3)) ∧ w2.heap.size ≤ k)) (w0 := w) w.heap.size rfl (.tmp 48) (.tmp 49) 30 27 (.agg #[.int .u8 0, .slice none 0 0]) 32 rfl Try.underlying30 infoFr rfl (by decide) (by omega) u8 (feedF p).1 ys Av ys.length cv (fun k => k ≠ bx ∧ some k ≠ Value.ownBlock (.slice A3 (feedF q).2.2.length c3)) (fun k => (k ≠ bx ∧ some k ≠ Value.ownBlock (.slice A3 (feedF q).2.2.length c3)) ∧ w2.heap.size ≤ k) rfl rfl HST.out.out HRows.out (fun _ _ h => h) (fun k hk => ⟨hk.1, fun he => by have := HL2.out k he.symm; have := hk.2; omega⟩) (fun k hk => ⟨by have := HST.out.box.lt; omega, fun he => by have := HL3.out k he.symm; omega⟩) HB3.out HB3.out.size (by omega) ?_; intro v9 w4 ho hb hg _; have HS9 := Lib.hid (HST.out.append hg ho); have HB9 := Lib.hid hb; clear ho hb hg)
                 go_roundw
                 case rel => exact ⟨q, r.drop m, B9, c9, i + 1, A3, c3, by omega, by rw [List.length_drop]; omega, by rw [List.length_drop], by rw [← HBR.out], by go_num, Lib.hid ⟨by rw [L.out.eq, HQ.out, List.append_assoc, List.take_append_drop], HC9.out.1, HC9.out.2, by rw [show feedF q = ((feedF p).1 ++ ys, (feedF q).2) from by rw [← HYS.out]]; exact HS9.out, HB9.out⟩⟩
                 case measure => simp [lenOf]; omega)
          · as_aux_lemma =>
            go_upto_region 10 with (fail)
            obtain ⟨m, hm1, hm2, hme⟩ : ∃ m : Nat, 1 ≤ m ∧ m ≤ r.length ∧ (r.length : Int) = (m : Int) := ⟨r.length, by omega, Nat.le_refl _, rfl⟩
            rw [hme]
            clear hme
            have ex : (r.take m).length = m := by rw [List.length_take]; omega
            have hcut := Low.cut_h (P := Try.prog) 22 5 Try.underlying22 HI.out.1 HI.out.2 Ar r.length cr m (by have := L.out.cap; omega)
            have hcutl : ∀ W, (Instr.slice 22 (.slice Ar r.length cr) (some (.int .i64 (m : Int))) none none).run Try.prog W = .ok (.slice (if cr = m then Ar else Ar.map (·.add m)) (r.length - m) (cr - m)) W := fun W => cut_lK (P := Try.prog) 22 5 Try.underlying22 HI.out.1 HI.out.2 .i64 Ar r.length cr m hm2 W
            have HC9 := drop_C L.out.rdr L.out.cap m hm2
            obtain ⟨B9, hB9⟩ : ∃ B, B = (if cr = m then Ar else Ar.map (·.add m)) := ⟨_, rfl⟩
            obtain ⟨c9, hc9⟩ : ∃ d, d = cr - m := ⟨_, rfl⟩
            rw [← hB9, ← hc9] at hcutl
            rw [← hB9] at HC9
            replace HC9 := Lib.hid (show Kd.C ku8 w B9 (r.drop m).length (r.drop m) ∧ (r.drop m).length ≤ c9 from ⟨HC9, by rw [List.length_drop, hc9]; have := L.out.cap; omega⟩)
            have L2 := Lib.hid (L.out.st.keep HW.out)
            have HB2 := Lib.hid (below_then L.out.bel L.out.bel.size HW.out)
            have hbp : Bytes p := by have h := HA.out.2.2.1; rw [L.out.eq] at h; exact h.left
            have hbr : Bytes r := by have h := HA.out.2.2.1; rw [L.out.eq] at h; exact h.right
            have hlf := feed_left p.length p (Nat.le_refl _) hbp
            have HE := Lib.hid (feedS_of p (r.take m) hbp)
            have H1 := feed_st L2.out HB2.out (r.take m) Ar cr (by rw [ex]; exact Low.take_C (Kd.C_below L.out.rdr HB2.out) m hm2) (by rw [ex]; have := L.out.cap; omega) hlf.2.2.1 (hbr.take m) (by rw [ex]; omega)
            rw [ex] at H1
            replace H1 := Lib.hid H1
            have HX := Lib.hid ex
            have HMono : Hid ((feedF p).2.1 = true → (feedF (p ++ r.take m)).2.1 = true) := Lib.hid (fun h => by rw [HE.out]; unfold feedS; rw [if_pos h]; exact h)
            clear ex hB9 hc9 hbp hbr hlf
            go_wp2_with fail
            refine H1.out.mono ?_
            rintro e w3 ⟨v, ys, A3, c3, he, hys, hst, hv, hb3⟩
            rw [← HE.out] at he hys hst hv
            obtain ⟨Av, cv, rfl⟩ := Kd.R_slice hv
            obtain ⟨q, hq⟩ : ∃ q, q = p ++ r.take m := ⟨_, rfl⟩
            rw [← hq] at he hys hst hv HMono
            have HQ := Lib.hid hq
            have hfc := feed_count q.length q (Nat.le_refl _)
            have hql : q.length = p.length + m := by rw [hq, List.length_append, HX.out]
            rw [hys, List.length_append] at hfc
            have HL2 := Lib.hid (Kd.R_lt L2.out.out)
            have HL3 := Lib.hid (Kd.R_lt hst.left)
            have HRows := Lib.hid (rows_M hv HB2.out.size)
            have HST := Lib.hid hst
            have HYS := Lib.hid hys
            have HB3 := Lib.hid hb3
            obtain ⟨brp, hbrp⟩ : ∃ x, x = (feedF p).2.1 := ⟨_, rfl⟩
            obtain ⟨brq, hbrq⟩ : ∃ x, x = (feedF q).2.1 := ⟨_, rfl⟩
            rw [← hbrp] at HMono ⊢
            rw [← hbrq] at HMono he
            have HBR := Lib.hid hbrq
            clear H1 hq hys hst hv hb3 hbrp hbrq hcut
            subst he
            cases brp <;> cases brq
            all_goals
              first
              | (exfalso; have hxx := HMono.out rfl; cases hxx; done)
              | (go_wp2_with ((with_reducible refine gate_builtin (b := .append) (xs := #[.tmp 48, .tmp 49]) rfl ?_); at_builtin; refine Kd.R_append_rows k27 (Rr := k27.M w3 w.heap.size (fun k => (k ≠ bx ∧ some k ≠ Value.ownBlock (.slice A3 (feedF q).2.2.length c3)) ∧ w2.heap.size ≤ k)) (w0 := w) w.heap.size rfl (.tmp 48) (.tmp 49) 30 27 (.agg #[.int .u8 0, .slice none 0 0]) 32 rfl Try.underlying30 infoFr rfl (by decide) (by omega) u8 (feedF p).1 ys Av ys.length cv (fun k => k ≠ bx ∧ some k ≠ Value.ownBlock (.slice A3 (feedF q).2.2.length c3)) (fun k => (k ≠ bx ∧ some k ≠ Value.ownBlock (.slice A3 (feedF q).2.2.length c3)) ∧ w2.heap.size ≤ k) rfl rfl HST.out.out HRows.out (fun _ _ h => h) (fun k hk => ⟨hk.1, fun he => by have := HL2.out k he.symm; have := hk.2; omega⟩) (fun k hk => ⟨by have := HST.out.box.lt; omega, fun he => by have := HL3.out k he.symm; omega⟩) HB3.out HB3.out.size (by omega) ?_; intro v9 w4 ho hb hg _; have HS9 := Lib.hid (HST.out.append hg ho); have HB9 := Lib.hid hb; clear ho hb hg)
                 go_roundw
                 case rel => exact ⟨q, r.drop m, B9, c9, i + 1, A3, c3, by omega, by rw [List.length_drop]; omega, by rw [List.length_drop], by rw [← HBR.out], by go_num, Lib.hid ⟨by rw [L.out.eq, HQ.out, List.append_assoc, List.take_append_drop], HC9.out.1, HC9.out.2, by rw [show feedF q = ((feedF p).1 ++ ys, (feedF q).2) from by rw [← HYS.out]]; exact HS9.out, HB9.out⟩⟩
                 case measure => simp [lenOf]; omega)
        · as_aux_lemma =>
          have h4b : ¬ (i : Int) < 400 := h400
          go_upto_region 10 with (fail)
          obtain ⟨m, hm1, hm2, hme⟩ : ∃ m : Nat, 1 ≤ m ∧ m ≤ r.length ∧ (r.length : Int) = (m : Int) := ⟨r.length, by omega, Nat.le_refl _, rfl⟩
          rw [hme]
          clear hme
          have HW := Lib.hid (Below.refl wr.heap.size wr)
          have ex : (r.take m).length = m := by rw [List.length_take]; omega
          have hcut := Low.cut_h (P := Try.prog) 22 5 Try.underlying22 HI.out.1 HI.out.2 Ar r.length cr m (by have := L.out.cap; omega)
          have hcutl : ∀ W, (Instr.slice 22 (.slice Ar r.length cr) (some (.int .i64 (m : Int))) none none).run Try.prog W = .ok (.slice (if cr = m then Ar else Ar.map (·.add m)) (r.length - m) (cr - m)) W := fun W => cut_lK (P := Try.prog) 22 5 Try.underlying22 HI.out.1 HI.out.2 .i64 Ar r.length cr m hm2 W
          have HC9 := drop_C L.out.rdr L.out.cap m hm2
          obtain ⟨B9, hB9⟩ : ∃ B, B = (if cr = m then Ar else Ar.map (·.add m)) := ⟨_, rfl⟩
          obtain ⟨c9, hc9⟩ : ∃ d, d = cr - m := ⟨_, rfl⟩
          rw [← hB9, ← hc9] at hcutl
          rw [← hB9] at HC9
          replace HC9 := Lib.hid (show Kd.C ku8 w B9 (r.drop m).length (r.drop m) ∧ (r.drop m).length ≤ c9 from ⟨HC9, by rw [List.length_drop, hc9]; have := L.out.cap; omega⟩)
          have L2 := Lib.hid (L.out.st.keep HW.out)
          have HB2 := Lib.hid (below_then L.out.bel L.out.bel.size HW.out)
          have hbp : Bytes p := by have h := HA.out.2.2.1; rw [L.out.eq] at h; exact h.left
          have hbr : Bytes r := by have h := HA.out.2.2.1; rw [L.out.eq] at h; exact h.right
          have hlf := feed_left p.length p (Nat.le_refl _) hbp
          have HE := Lib.hid (feedS_of p (r.take m) hbp)
          have H1 := feed_st L2.out HB2.out (r.take m) Ar cr (by rw [ex]; exact Low.take_C (Kd.C_below L.out.rdr HB2.out) m hm2) (by rw [ex]; have := L.out.cap; omega) hlf.2.2.1 (hbr.take m) (by rw [ex]; omega)
          rw [ex] at H1
          replace H1 := Lib.hid H1
          have HX := Lib.hid ex
          have HMono : Hid ((feedF p).2.1 = true → (feedF (p ++ r.take m)).2.1 = true) := Lib.hid (fun h => by rw [HE.out]; unfold feedS; rw [if_pos h]; exact h)
          clear ex hB9 hc9 hbp hbr hlf
          go_wp2_with fail
          refine H1.out.mono ?_
          rintro e w3 ⟨v, ys, A3, c3, he, hys, hst, hv, hb3⟩
          rw [← HE.out] at he hys hst hv
          obtain ⟨Av, cv, rfl⟩ := Kd.R_slice hv
          obtain ⟨q, hq⟩ : ∃ q, q = p ++ r.take m := ⟨_, rfl⟩
          rw [← hq] at he hys hst hv HMono
          have HQ := Lib.hid hq
          have hfc := feed_count q.length q (Nat.le_refl _)
          have hql : q.length = p.length + m := by rw [hq, List.length_append, HX.out]
          rw [hys, List.length_append] at hfc
          have HL2 := Lib.hid (Kd.R_lt L2.out.out)
          have HL3 := Lib.hid (Kd.R_lt hst.left)
          have HRows := Lib.hid (rows_M hv HB2.out.size)
          have HST := Lib.hid hst
          have HYS := Lib.hid hys
          have HB3 := Lib.hid hb3
          obtain ⟨brp, hbrp⟩ : ∃ x, x = (feedF p).2.1 := ⟨_, rfl⟩
          obtain ⟨brq, hbrq⟩ : ∃ x, x = (feedF q).2.1 := ⟨_, rfl⟩
          rw [← hbrp] at HMono ⊢
          rw [← hbrq] at HMono he
          have HBR := Lib.hid hbrq
          clear H1 hq hys hst hv hb3 hbrp hbrq hcut
          subst he
          cases brp <;> cases brq
          all_goals
            first
            | (exfalso; have hxx := HMono.out rfl; cases hxx; done)
            | (go_wp2_with ((with_reducible refine gate_builtin (b := .append) (xs := #[.tmp 48, .tmp 49]) rfl ?_); at_builtin; refine Kd.R_append_rows k27 (Rr := k27.M w3 w.heap.size (fun k => (k ≠ bx ∧ some k ≠ Value.ownBlock (.slice A3 (feedF q).2.2.length c3)) ∧ wr.heap.size ≤ k)) (w0 := w) w.heap.size rfl (.tmp 48) (.tmp 49) 30 27 (.agg #[.int .u8 0, .slice none 0 0]) 32 rfl Try.underlying30 infoFr rfl (by decide) (by omega) u8 (feedF p).1 ys Av ys.length cv (fun k => k ≠ bx ∧ some k ≠ Value.ownBlock (.slice A3 (feedF q).2.2.length c3)) (fun k => (k ≠ bx ∧ some k ≠ Value.ownBlock (.slice A3 (feedF q).2.2.length c3)) ∧ wr.heap.size ≤ k) rfl rfl HST.out.out HRows.out (fun _ _ h => h) (fun k hk => ⟨hk.1, fun he => by have := HL2.out k he.symm; have := hk.2; omega⟩) (fun k hk => ⟨by have := HST.out.box.lt; omega, fun he => by have := HL3.out k he.symm; omega⟩) HB3.out HB3.out.size (by omega) ?_; intro v9 w4 ho hb hg _; have HS9 := Lib.hid (HST.out.append hg ho); have HB9 := Lib.hid hb; clear ho hb hg)
               go_roundw
               case rel => exact ⟨q, r.drop m, B9, c9, i + 1, A3, c3, by omega, by rw [List.length_drop]; omega, by rw [List.length_drop], by rw [← HBR.out], by go_num, Lib.hid ⟨by rw [L.out.eq, HQ.out, List.append_assoc, List.take_append_drop], HC9.out.1, HC9.out.2, by rw [show feedF q = ((feedF p).1 ++ ys, (feedF q).2) from by rw [← HYS.out]]; exact HS9.out, HB9.out⟩⟩
               case measure => simp [lenOf]; omega)
end Go.Proofs.Ytajlmjmhkhdmdaa.PF
