/- Feed, walked: the walk itself. -/
import Derived.Test.YtajlmjmhkhdmdaaFrFeed
set_option linter.unusedVariables false
set_option linter.unusedSimpArgs false
namespace Go.Proofs.Ytajlmjmhkhdmdaa.PF
open Go.RowKit Go.Proofs.YtajlmjmhkhdmdaaW.PrintWords Go.Proofs.YtajlmjmhkhdmdaaW.PrintLast Go.Proofs.YtajlmjmhkhdmdaaW.PrintMore
attribute [local go_sem] max2_int min2_int max_two min_two
def lenOf : Value → Nat
  | .slice _ n _ => n
  | _ => 0
/-- What the loop of Feed holds. -/
structure FL (w1 : World) (al l' : List Int) (fs : List Fr) (A6 : Option Addr) (c6 : Nat) (v7 : Value) (wr : World) : Prop where
  fd : feedF al = (fs ++ (feedF l').1, (feedF l').2)
  by_ : Bytes l'
  len : l'.length ≤ 4398046511104
  fl : fs.length + l'.length ≤ 4398046511104
  rd_ : Kd.C ku8 w1 A6 l'.length l'
  cap : l'.length ≤ c6
  own : Kd.R k27 27 wr w1.heap.size (fun _ => True) v7 fs
  bel : Below w1.heap.size w1 wr
theorem FL.rdw {w1 wr : World} {al l' : List Int} {fs : List Fr} {A6 : Option Addr} {c6 : Nat} {v7 : Value} (h : FL w1 al l' fs A6 c6 v7 wr) : Kd.C ku8 wr A6 l'.length l' := Kd.C_below h.rd_ h.bel
set_option maxRecDepth 100000 in
set_option maxHeartbeats 16000000 in
theorem feed_calls (b : Nat) (A : Option Addr) (c : Nat) (l x al : List Int) (hal : al = l ++ x) (B : Option Addr) (cx : Nat) (w : World) (base : Nat) (ok : Nat → Prop) (hbx : RB w b false A l.length c) (hown : Kd.R ku8 5 w base ok (.slice A l.length c) l) (hokb : ∀ k, ok k → k ≠ b) (hbb : base ≤ b)
    (hx : Kd.C ku8 w B x.length x) (hcx : x.length ≤ cx) (hl : Bytes l) (hxb : Bytes x) (hlen : l.length + x.length ≤ 4398046511104) :
    Calls Try.prog 10 #[.pointer (some ⟨b, 0, none⟩), .slice B x.length cx] w (Fed w b base ok al) := by
  have HN := Lib.hid (none_calls hbx)
  have g1 := hbx.c1
  have g2 := hbx.c2
  have HO := Lib.hid (show Kd.R ku8 5 w base (fun k => ok k ∨ w.heap.size ≤ k) (.slice A l.length c) l from Kd.R_mono hown (fun _ h => Or.inl h))
  have HX := Lib.hid hx
  have hbs : base ≤ w.heap.size := Nat.le_trans hbb (Nat.le_of_lt hbx.lt)
  have HAL := Lib.hid (show Bytes (l ++ x) ∧ (l ++ x).length ≤ 4398046511104 from ⟨hl.append hxb, by rw [List.length_append]; exact hlen⟩)
  have HW := Lib.hid (And.intro hbx (And.intro hown (And.intro hokb hbb)))
  have hl2 : (l.length + x.length) * 1 ≤ 140737488355328 := by omega
  have HE := Lib.hid hal
  clear hown hbx hx hl hxb hokb hbb hlen hal
  go_enter Try.func10, Try.ntmps10
  go_wp2
  go_step3
  go_wp2_with fail
  refine HN.out.mono ?_
  rintro e w' ⟨rfl, rfl⟩
  clear HN
  go_upto_region 5 with (fail)
  go_wp2_with ((with_reducible refine gate_builtin (b := .append) (xs := #[.tmp 25, .tmp 26]) rfl ?_); at_builtin; refine Kd.R_append_rows ku8 (w0 := w) base rfl (.tmp 25) (.tmp 26) 22 5 (.int .u8 0) 1 rfl Try.underlying22 Low.info8 rfl (by decide) (by omega) (.slice A l.length c) l x _ _ _ (fun k => ok k ∨ w.heap.size ≤ k) (fun _ => False) rfl rfl HO.out HX.out (fun _ _ h => h) (fun _ h => h.elim) (fun _ h => Or.inr h) (Below.refl _ _) hbs hl2 ?_; intro v1 w1 ho hb hg _; have HO1 := Lib.hid ho; have HG := Lib.hid (And.intro hb hg); clear ho hb hg)
  obtain ⟨A1, c1, hv1⟩ := Kd.R_slice HO1.out
  subst hv1
  have F : Hid (Fd w w1 b base ok A l.length c) := Lib.hid ⟨(HG.out.2.block b HW.out.1.lt (fun he => HW.out.2.2.1 b (HW.out.2.1.1 b he.symm) rfl)).trans HW.out.1, ⟨HG.out.2.size, fun k hk h1 h2 => HG.out.2.block k hk (fun he => h2 (HW.out.2.1.1 k he.symm))⟩,
    fun B w0 hB h => h.trans (HG.out.1.mono hB), HG.out.2.size, HW.out.2.2.2, HW.out.1.lt⟩
  have HC1 := Lib.hid (And.intro (Kd.R_reads' HO1.out).2.2 (Kd.R_reads' HO1.out).2.1)
  rw [← HE.out] at HAL HC1 ⊢
  clear HO1 HG HO HX hl2 hbs
  obtain ⟨i0, hi0, _, hz1, _⟩ := info_parts Low.info8
  have HI := Lib.hid (And.intro hi0 hz1)
  clear hi0 hz1
  go_wp2
  go_step3
  go_wp2
  go_loopw [6, 7] (fun v6 v7 wr => ∃ (l' : List Int) (fs : List Fr) (A6 : Option Addr) (c6 : Nat), v6 = .slice A6 l'.length c6 ∧ Hid (FL w1 al l' fs A6 c6 v7 wr)) (fun v6 _ _ => lenOf v6)
  case atStart => exact ⟨al, [], A1, c1, rfl, Lib.hid ⟨by simp, HAL.out.1, HAL.out.2, by simpa using HAL.out.2, HC1.out.1, HC1.out.2, Kd.R_nil _ _ _ _ _, Below.refl _ _⟩⟩
  case round =>
    clear HC1 HAL
    obtain ⟨l', fs, A6, c6, rfl, L⟩ := hrel
    have q1 : wr.cell? ⟨b, 1, none⟩ = some (.bool false) := (F.out.box.keep L.out.bel).c1
    have q2 : wr.cell? ⟨b, 2, none⟩ = some (.slice A l.length c) := (F.out.box.keep L.out.bel).c2
    have q1f := blk_frozen (F.out.box.keep L.out.bel) 1
    have q2f := blk_frozen (F.out.box.keep L.out.bel) 2
    have hl63 : l'.length ≤ 4398046511104 := L.out.len
    have HU := Oct.u32_calls A6 c6 l' 0 wr L.out.rdw L.out.by_ (by omega) ⟨by decide, by decide⟩
    by_cases hs : l'.length < 4
    · as_aux_lemma =>
      rw [Oct.nok_false (Or.inr (by omega))] at HU
      generalize Oct.nv l' 0 4 = n0 at HU
      have HF := Lib.hid (fd_short hs)
      replace HU := Lib.hid HU
      clear hs
      go_wp2_with fail
      refine HU.out.mono ?_
      rintro e w' ⟨rfl, rfl⟩
      go_wp2_with fail
      refine (clone_calls l' A6 c6 wr L.out.rdw L.out.cap (by omega)).mono ?_
      rintro e w2 ⟨A2, c2, rfl, hR, hb⟩
      have HR := Lib.hid (And.intro hR hb)
      replace q2 := (hb.cell (World.block_lt_of_cell? wr _ q2)).trans q2
      replace q2f := blk_frozen ((F.out.box.keep L.out.bel).keep hb) 2
      clear hR hb q1 q1f HU
      go_wp2
      try rw [Exit.noGoto_ret]
      go_ret2
      exact fed_waits F.out L.out.bel L.out.own L.out.fd HF.out HR.out.1 HR.out.2
    · rw [Oct.nok_true (by decide) (by omega)] at HU
      have hr := Oct.nv_range l' L.out.by_ 0 4
      have hn4 : len4 l' = Oct.nv l' 0 4 := rfl
      by_cases hbad : len4 l' = 0 ∨ 65536 < len4 l'
      · as_aux_lemma =>
        have HF := Lib.hid (fd_bad hs hbad)
        rw [hn4] at hbad
        generalize Oct.nv l' 0 4 = n0 at HU hr hbad
        replace HU := Lib.hid HU
        have hr0 := hr.1
        have hr1 : n0 < 4294967296 := hr.2
        clear hs hn4 hr
        have HP := Lib.hid (fed_broke F.out L.out.bel L.out.own L.out.fd HF.out)
        rcases hbad with h0 | h0
        · subst h0
          go_wp2_with fail
          refine HU.out.mono ?_
          rintro e w' ⟨rfl, rfl⟩
          go_wp2
          try rw [Exit.noGoto_ret]
          go_ret2
          exact HP.out
        · have h0b : (n0 == 0) = false := beq_eq_false_iff_ne.2 (by omega)
          go_wp2_with fail
          refine HU.out.mono ?_
          rintro e w' ⟨rfl, rfl⟩
          go_wp2
          try rw [Exit.noGoto_ret]
          go_ret2
          exact HP.out
      · by_cases hw8 : (l'.length : Int) < len4 l' + 8
        · as_aux_lemma =>
          have HF := Lib.hid (fd_wait hs hbad hw8)
          rw [hn4] at hbad hw8
          generalize Oct.nv l' 0 4 = n0 at HU hr hbad hw8
          replace HU := Lib.hid HU
          have hr0 := hr.1
          have hr1 : n0 ≤ 65536 := by omega
          have h0b : (n0 == 0) = false := beq_eq_false_iff_ne.2 (by omega)
          have hr2 : (l'.length : Int) - 8 < n0 := by omega
          have hs4 : 4 ≤ (l'.length : Int) := by omega
          clear hs hn4 hr hbad hw8
          go_wp2_with fail
          refine HU.out.mono ?_
          rintro e w' ⟨rfl, rfl⟩
          go_wp2_with fail
          refine (clone_calls l' A6 c6 wr L.out.rdw L.out.cap (by omega)).mono ?_
          rintro e w2 ⟨A2, c2, rfl, hR, hb⟩
          have HR := Lib.hid (And.intro hR hb)
          replace q2 := (hb.cell (World.block_lt_of_cell? wr _ q2)).trans q2
          replace q2f := blk_frozen ((F.out.box.keep L.out.bel).keep hb) 2
          clear hR hb q1 q1f HU
          go_wp2
          try rw [Exit.noGoto_ret]
          go_ret2
          exact fed_waits F.out L.out.bel L.out.own L.out.fd HF.out HR.out.1 HR.out.2
        · as_aux_lemma =>
          have hr0 : 0 ≤ len4 l' := hr.1
          obtain ⟨m, hm⟩ := Int.eq_ofNat_of_zero_le hr0
          have hmn : Oct.nv l' 0 4 = (m : Int) := hm
          have HS4 := Lib.hid (And.intro hs (And.intro hbad hw8))
          have HM := Lib.hid hm
          have hr4 := Oct.nv_range l' L.out.by_ (4 + (m : Int)) 4
          rw [hmn] at HU
          rw [hm] at hbad hw8
          have hm1 : 1 ≤ m := by omega
          have hm2 : m ≤ 65536 := by omega
          have hm8 : m + 8 ≤ l'.length := by omega
          have h0b : ((m : Int) == 0) = false := beq_eq_false_iff_ne.2 (by omega)
          have hr2 : (m : Int) ≤ (l'.length : Int) - 8 := by omega
          have d1 : decide ((65536 : Int) < (m : Int)) = false := decide_eq_false (by omega)
          have d2 : decide ((l'.length : Int) - 8 < (m : Int)) = false := decide_eq_false (by omega)
          have hl4 : (4 : Int) < (l'.length : Int) := by omega
          have w4 : IntKind.u32.wrap (4 + (m : Int)) = 4 + (m : Int) := by rw [IntKind.wrap_u32]; omega
          have w8 : IntKind.u32.wrap (8 + (m : Int)) = 8 + (m : Int) := by rw [IntKind.wrap_u32]; omega
          obtain ⟨ad, e1, hx4⟩ := Kd.at_int L.out.rdw 4 (by omega) (by omega)
          cases e1
          replace hx4 : wr.cell? ⟨ad.block, ad.off + 4, none⟩ = some (.int .u8 (rd l' 4)) := by
            have h : wr.cell? (ad.add 4) = some (.int .u8 (rd l' 4)) := hx4
            rw [← h]
            simp [Addr.add]
          have hcut5 : ∀ W, (Instr.slice 22 (.slice (some ad) l'.length c6) (some (.int .i64 5)) (some (.int .u32 (4 + (m : Int)))) none).run Try.prog W = .ok (.slice (if c6 = 5 then some ad else (some ad).map (·.add 5)) (m - 1) (c6 - 5)) W := fun W => by
            have h := cut_lhK (P := Try.prog) 22 5 Try.underlying22 HI.out.1 HI.out.2 .i64 .u32 (some ad) l'.length c6 5 (4 + m) (by omega) (by have := L.out.cap; omega) W
            rw [show 4 + m - 5 = m - 1 by omega, show ((4 + m : Nat) : Int) = 4 + (m : Int) by omega] at h
            exact h
          have hcut4 : ∀ W, (Instr.slice 22 (.slice (some ad) l'.length c6) (some (.int .i64 4)) (some (.int .u32 (4 + (m : Int)))) none).run Try.prog W = .ok (.slice (if c6 = 4 then some ad else (some ad).map (·.add 4)) m (c6 - 4)) W := fun W => by
            have h := cut_lhK (P := Try.prog) 22 5 Try.underlying22 HI.out.1 HI.out.2 .i64 .u32 (some ad) l'.length c6 4 (4 + m) (by omega) (by have := L.out.cap; omega) W
            rw [show 4 + m - 4 = m by omega, show ((4 + m : Nat) : Int) = 4 + (m : Int) by omega] at h
            exact h
          have hcut8 : ∀ W, (Instr.slice 22 (.slice (some ad) l'.length c6) (some (.int .u32 (8 + (m : Int)))) none none).run Try.prog W = .ok (.slice (if c6 = 8 + m then some ad else (some ad).map (·.add (8 + m))) (l'.length - (8 + m)) (c6 - (8 + m))) W := fun W => by
            have h := cut_lK (P := Try.prog) 22 5 Try.underlying22 HI.out.1 HI.out.2 .u32 (some ad) l'.length c6 (8 + m) (by omega) W
            rw [show ((8 + m : Nat) : Int) = 8 + (m : Int) by omega] at h
            exact h
          have C5 := Oct.seg_C L.out.rdw L.out.cap 5 (4 + m) (by omega) (by omega)
          have C4 := Oct.seg_C L.out.rdw L.out.cap 4 (4 + m) (by omega) (by omega)
          have C8 := drop_C L.out.rd_ L.out.cap (8 + m) (by omega)
          rw [show 4 + m - 5 = m - 1 by omega] at C5
          rw [show 4 + m - 4 = m by omega] at C4
          obtain ⟨B5, hB5⟩ : ∃ B, B = (if c6 = 5 then some ad else (some ad).map (·.add 5)) := ⟨_, rfl⟩
          obtain ⟨B4, hB4⟩ : ∃ B, B = (if c6 = 4 then some ad else (some ad).map (·.add 4)) := ⟨_, rfl⟩
          obtain ⟨B8, hB8⟩ : ∃ B, B = (if c6 = 8 + m then some ad else (some ad).map (·.add (8 + m))) := ⟨_, rfl⟩
          rw [← hB5] at hcut5 C5
          rw [← hB4] at hcut4 C4
          rw [← hB8] at hcut8 C8
          obtain ⟨d5, hd5⟩ : ∃ d, d = c6 - 5 := ⟨_, rfl⟩
          obtain ⟨d4, hd4⟩ : ∃ d, d = c6 - 4 := ⟨_, rfl⟩
          obtain ⟨d8, hd8⟩ : ∃ d, d = c6 - (8 + m) := ⟨_, rfl⟩
          rw [← hd5] at hcut5
          rw [← hd4] at hcut4
          rw [← hd8] at hcut8
          have HD := Lib.hid (show m - 1 ≤ d5 ∧ m ≤ d4 ∧ l'.length - (8 + m) ≤ d8 from by have := L.out.cap; omega)
          have e5 : ((l'.drop 5).take (m - 1)).length = m - 1 := by rw [List.length_take, List.length_drop]; omega
          have e4 : ((l'.drop 4).take m).length = m := by rw [List.length_take, List.length_drop]; omega
          have HC5 := Lib.hid (show Kd.C ku8 wr B5 ((l'.drop 5).take (m - 1)).length ((l'.drop 5).take (m - 1)) by rw [e5]; exact C5)
          have HC4 := Lib.hid (show Kd.C ku8 wr B4 ((l'.drop 4).take m).length ((l'.drop 4).take m) by rw [e4]; exact C4)
          have HC8 := Lib.hid C8
          obtain ⟨q, hq⟩ : ∃ q : Int, q = ((Sums.more 0 ((l'.drop 4).take m)).toNat : Int) := ⟨_, rfl⟩
          have HCR : Hid (∀ W, Below wr.heap.size wr W → Calls Try.prog 26 #[.slice B4 m d4] W fun e w' => e = .returned (.int .u32 q) ∧ Below W.heap.size W w') := Lib.hid (fun W hW => by
            have h := Sums.crc_calls B4 d4 ((l'.drop 4).take m) W (Kd.C_below HC4.out hW) ((L.out.by_.drop _).take _) (by rw [e4]; omega)
            rw [e4] at h
            rw [hq]
            exact h)
          have HQ := Lib.hid hq
          obtain ⟨s4, hs4⟩ : ∃ s, s = Oct.nv l' (4 + (m : Int)) 4 := ⟨_, rfl⟩
          have HU2 : Hid (∀ W, Below wr.heap.size wr W → Calls Try.prog 28 #[.slice (some ad) l'.length c6, .int .i64 (4 + (m : Int))] W fun e w' => e = .returned (.tuple #[.int .u32 s4, .bool true]) ∧ W = w') := Lib.hid (fun W hW => by
            have h := Oct.u32_calls (some ad) c6 l' (4 + (m : Int)) W (Kd.C_below L.out.rdw hW) L.out.by_ (by omega) ⟨by omega, by omega⟩
            rw [Oct.nok_true (by omega) (by omega), ← hs4] at h
            exact h)
          rw [← hs4] at hr4
          have HS := Lib.hid hs4
          have HE5 := Lib.hid e5
          replace HU := Lib.hid HU
          have hs0 := hr4.1
          have hs1 : s4 < 4294967296 := hr4.2
          clear hs hbad hw8 hn4 hr hm hmn hr4 hs4 hr0 hq C5 C4 C8 hB5 hB4 hB8 hd5 hd4 hd8 e5 e4
          go_wp2_with fail
          refine HU.out.mono ?_
          rintro e w' ⟨rfl, rfl⟩
          go_upto_region 11 with (fail)
          go_quiet (fail)
          go_wp2_with fail
          refine (HU2.out _ (pw_below_drewN (Below.refl _ _) _)).mono ?_
          rintro e w3 ⟨rfl, rfl⟩
          clear hx4 HU HU2
          go_wp2_with fail
          refine (HCR.out _ (pw_below_drewN (Below.refl _ _) _)).mono ?_
          rintro e w4 ⟨rfl, hb⟩
          have HB4 := Lib.hid (below_then (pw_below_drewN (Below.refl wr.heap.size wr) _) (Nat.le_refl _) hb)
          have HB1 := Lib.hid (below_then L.out.bel L.out.bel.size HB4.out)
          have HOw := Lib.hid (Kd.R_below L.out.own HB4.out)
          clear q1 q2 q1f q2f hb HCR hcut5 hcut4
          by_cases hsq : s4 = q
          · have hsqb : (s4 != q) = false := bne_eq_false_iff_eq.2 hsq
            have HF := Lib.hid (fd_ok HS4.out.1 HS4.out.2.1 (Int.not_lt.2 HS4.out.2.2) (by rw [HM.out, ← HS.out, hsq, HQ.out]; rfl))
            rw [HM.out] at HF
            clear hsq
            have HCl := clone_calls ((l'.drop 5).take (m - 1)) B5 d5 w4 (Kd.C_below HC5.out HB4.out) (by rw [HE5.out]; exact HD.out.1) (by rw [HE5.out]; omega)
            rw [HE5.out] at HCl
            replace HCl := Lib.hid HCl
            go_wp2_with fail
            refine HCl.out.mono ?_
            rintro e w5 ⟨A5, c5, rfl, hR, hb⟩
            replace HOw := Lib.hid (Kd.R_below HOw.out hb)
            have HZ := Lib.hid HB1.out.size
            replace HB1 := Lib.hid (below_then HB1.out HB1.out.size hb)
            replace HB4 := Lib.hid (below_then HB4.out HB4.out.size hb)
            have HRx := Lib.hid (Kd.R_apartR (Kd.R_lower (base' := w1.heap.size) hR HZ.out) HOw.out (by decide))
            clear hb hR HCl hsqb
            go_wp2_with ((with_reducible refine gate_builtin (b := .append) (xs := #[.tmp 82, .tmp 87]) rfl ?_); at_builtin; refine Kd.R_append k27 (w0 := w1) w1.heap.size rfl (.tmp 82) (.tmp 87) 30 27 (.agg #[.int .u8 0, .slice none 0 0]) 32 rfl Try.underlying30 infoFr rfl (by decide) (by omega) u7 fs (⟨rd l' 4, (l'.drop 5).take (m - 1)⟩ : Fr) [.int .u8 (rd l' 4), .slice A5 (m - 1) c5] (fun _ => True) (fun k => True ∧ some k ≠ u7.ownBlock) rfl rfl ?aP (fun _ hk => hk) (fun _ _ => trivial) HOw.out HB1.out HB1.out.size ?aL ?_; (case aP => exact k27_mkM _ _ _ (⟨rd l' 4, (l'.drop 5).take (m - 1)⟩ : Fr) HRx.out); (case aL => (have := L.out.fl; omega)); intro v8 w6 ho hb _ _; have HO6 := Lib.hid ho; have HB6 := Lib.hid hb; clear ho hb)
            go_wp2
            go_roundw
            case rel => exact ⟨l'.drop (8 + m), fs ++ [(⟨rd l' 4, (l'.drop 5).take (m - 1)⟩ : Fr)], B8, d8, by rw [List.length_drop], Lib.hid ⟨by rw [L.out.fd, HF.out]; simp, L.out.by_.drop _, by have := L.out.len; rw [List.length_drop]; omega, by have := L.out.fl; rw [List.length_drop, List.length_append]; simp only [List.length_cons, List.length_nil]; omega, HC8.out, by rw [List.length_drop]; exact HD.out.2.2, HO6.out, HB6.out⟩⟩
            case measure => simp [lenOf]; omega
          · have hsqb : (s4 != q) = true := bne_iff_ne.2 hsq
            have HF := Lib.hid (fd_sum HS4.out.1 HS4.out.2.1 (Int.not_lt.2 HS4.out.2.2) (by rw [HM.out, ← HS.out]; intro h; exact hsq (by rw [h, HQ.out]; rfl)))
            clear hsq
            have q1 : w4.cell? ⟨b, 1, none⟩ = some (.bool false) := (F.out.box.keep HB1.out).c1
            have q2 : w4.cell? ⟨b, 2, none⟩ = some (.slice A l.length c) := (F.out.box.keep HB1.out).c2
            have q1f := blk_frozen (F.out.box.keep HB1.out) 1
            have q2f := blk_frozen (F.out.box.keep HB1.out) 2
            have HP := Lib.hid (fed_broke F.out HB1.out HOw.out L.out.fd HF.out)
            go_wp2
            try rw [Exit.noGoto_ret]
            go_ret2
            exact HP.out
end Go.Proofs.Ytajlmjmhkhdmdaa.PF
