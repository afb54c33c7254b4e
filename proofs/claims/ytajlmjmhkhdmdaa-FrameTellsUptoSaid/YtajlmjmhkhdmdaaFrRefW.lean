/- The document's Feed: the walk. -/
import Derived.Test.YtajlmjmhkhdmdaaFrRef
import Derived.Test.YtajlmjmhkhdmdaaFrCuts
set_option linter.unusedVariables false
set_option linter.unusedSimpArgs false
namespace Go.Proofs.Ytajlmjmhkhdmdaa.PF
open Go.RowKit Go.Proofs.YtajlmjmhkhdmdaaW.PrintWords Go.Proofs.YtajlmjmhkhdmdaaW.PrintLast Go.Proofs.YtajlmjmhkhdmdaaW.PrintMore
attribute [local go_sem] max2_int min2_int max_two min_two
def ref_Feed.T16 : Bool × List (List Nat × List Nat) := (true, [([], []), ([], []), ([1], [1]), ([2], [2]), ([], []), ([], []), ([4, 5], [4, 5]), ([6], [6]), ([3, 7], [3, 7]), ([8], [8]), ([0, 9, 7], [0, 9]), ([10, 10, 0, 1, 2, 3, 4, 5, 6, 7, 8, 9, 10], [0, 10])])
def ref_Feed.B16 : List Nat := [0, 0, 2, 6, 0, 0, 48, 112, 254, 510, 1023, 2047]
theorem ref_Feed.tab16 : rtab .any (opsOf Try.f23 16) = ref_Feed.T16 := by kernel_rfl
theorem ref_Feed.bits16 : waitsOk ref_Feed.T16.2 ref_Feed.B16 = true := by kernel_rfl
set_option maxRecDepth 100000 in
set_option maxHeartbeats 4000000 in
theorem ref_broken (l : List Int) (A : Option Addr) (c : Nat) (B : Option Addr) (m cx : Nat) (w : World) (hr : Kd.C ku8 w A l.length l) (hc : l.length ≤ c) :
    Calls Try.prog 23 #[.agg #[.slice A l.length c, .bool true], .slice B m cx] w (RefFed w ([], true, l)) := by
  have HR := Lib.hid (And.intro hr hc)
  clear hr hc
  go_enter Try.func23, Try.ntmps23
  go_wp2
  generalize hWD : (World.alloc (World.alloc w _) _) = WD
  have h4 : WD.heap[w.heap.size + 1]? = some (.cells #[.slice A l.length c, .bool true] 47 (0, 0)) := by
    rw [← hWD, ← World.size_alloc w (.cells #[.slice A l.length c, .bool true] 47)]
    exact blk_new _ _
  have hb : Below w.heap.size w WD := by rw [← hWD]; exact below_alloc (below_alloc (Below.refl _ _) _) _
  refine bodyPost_ret (results_ctt rfl _ _ (w.heap.size + 1) 47 _ (0, 0) _ rfl h4 Try.underlying47 rfl infoRd) rfl ?_
  exact ⟨A, c, none, 0, rfl, Kd.C_below HR.out.1 hb, HR.out.2, Kd.R_nil _ _ _ _ _, (fun h => by cases h), hb⟩
set_option maxRecDepth 100000 in
set_option maxHeartbeats 16000000 in
theorem ref_calls (l x al : List Int) (hal : al = l ++ x) (A : Option Addr) (c : Nat) (B : Option Addr) (cx : Nat) (w : World) (hr : Kd.C ku8 w A l.length l) (hc : l.length ≤ c) (hx : Kd.C ku8 w B x.length x) (hcx : x.length ≤ cx) (hl : Bytes l) (hxb : Bytes x) (hlen : l.length + x.length ≤ 4398046511104) :
    Calls Try.prog 23 #[.agg #[.slice A l.length c, .bool false], .slice B x.length cx] w (RefFed w (feedF al)) := by
  have HR := Lib.hid (And.intro hr hc)
  have HX := Lib.hid (And.intro hx hcx)
  have HAL := Lib.hid (show Bytes (l ++ x) ∧ (l ++ x).length ≤ 4398046511104 from ⟨hl.append hxb, by rw [List.length_append]; exact hlen⟩)
  have hl2 : (l.length + x.length) * 1 ≤ 140737488355328 := by omega
  have hl3 : l.length ≤ 140737488355328 := by omega
  have HE := Lib.hid hal
  clear hr hc hx hcx hl hxb hlen hal
  go_enter Try.func23, Try.ntmps23
  go_upto_region 3 with (fail)
  generalize hWD : (World.alloc (World.alloc w _) _) = WD
  obtain ⟨b4, hb4⟩ : ∃ b, b = w.heap.size + 1 := ⟨_, rfl⟩
  obtain ⟨b2, hb2⟩ : ∃ b, b = w.heap.size := ⟨_, rfl⟩
  rw [← hb4, ← hb2]
  have H4 : Hid (RB4 w WD b4) := Lib.hid ⟨by rw [← hWD, hb4, ← World.size_alloc w (.cells #[.slice A l.length c, .bool false] 47)]; exact blk_new _ _, by omega, by rw [← hWD]; exact below_alloc (below_alloc (Below.refl _ _) _) _⟩
  have h2 : WD.heap[b2]? = some (.cells #[.slice A l.length c, .bool false] 47 (0, 0)) := by rw [← hWD, hb2]; exact blk_alloc (blk_new _ _) _
  have g20 : WD.cell? ⟨b2, 0, none⟩ = some (.slice A l.length c) := (blk_cell h2 0).trans rfl
  have HCp := Lib.hid (Low.copy_calls A c l WD (Kd.C_below HR.out.1 H4.out.bel) hl3)
  clear hWD hb4 hb2 h2
  go_wp2_with fail
  refine HCp.out.mono ?_
  rintro e w0 ⟨v0, rfl, hR0, hb0⟩
  have HR0 := Lib.hid hR0
  have HB0 := Lib.hid hb0
  have H40 := H4
  replace H4 := Lib.hid (H4.out.keep hb0)
  clear hR0 hb0 HCp g20
  go_upto_region 4 with ((with_reducible refine gate_builtin (b := .append) (xs := #[.tmp 19, .tmp 20]) rfl ?_); at_builtin; refine Kd.R_append_rows ku8 (w0 := WD) WD.heap.size rfl (.tmp 19) (.tmp 20) 22 5 (.int .u8 0) 1 rfl Try.underlying22 Low.info8 rfl (by decide) (by omega) v0 l x _ _ _ (fun _ => True) (fun _ => False) rfl rfl HR0.out (Kd.C_below HX.out.1 H4.out.bel) (fun _ _ h => h) (fun _ h => h.elim) (fun _ _ => trivial) HB0.out HB0.out.size hl2 ?_; intro v1 w1 ho hb hg _; have HO1 := Lib.hid ho; have HG := Lib.hid (And.intro hb hg); clear ho hb hg)
  obtain ⟨A1, c1, hv1⟩ := Kd.R_slice HO1.out
  subst hv1
  have HLT := Lib.hid (Nat.lt_of_lt_of_le (blk_lt H40.out.box) HG.out.1.size)
  replace H4 := Lib.hid (H40.out.keep HG.out.1)
  have HC1 := Lib.hid (And.intro (Kd.R_reads' HO1.out).2.2 (Kd.R_reads' HO1.out).2.1)
  have HA1b : Hid (∀ ad, A1 = some ad → w.heap.size ≤ ad.block) := Lib.hid (fun ad ha => by
    subst ha
    have h := Kd.R_base HO1.out ad.block (by simp [Value.ownBlock])
    have h2 := H40.out.bel.size
    omega)
  rw [← HE.out] at HAL HC1 ⊢
  clear HO1 HG HX hl2 hl3 H40 HR0 HB0
  obtain ⟨i0, hi0, _, hz1, _⟩ := info_parts Low.info8
  have HI := Lib.hid (And.intro hi0 hz1)
  clear hi0 hz1
  go_wp2
  go_loopw [7, 8] (fun v7 v8 wr => ∃ (l' : List Int) (fs : List Fr) (A6 : Option Addr) (c6 : Nat), v7 = .slice A6 l'.length c6 ∧ Hid (FL w1 al l' fs A6 c6 v8 wr) ∧ Hid (∀ ad, A6 = some ad → w.heap.size ≤ ad.block)) (fun v7 _ _ => lenOf v7)
  case atStart => exact ⟨al, [], A1, c1, rfl, Lib.hid ⟨by simp, HAL.out.1, HAL.out.2, by simpa using HAL.out.2, HC1.out.1, HC1.out.2, Kd.R_nil _ _ _ _ _, Below.refl _ _⟩, HA1b⟩
  case round =>
    clear HC1 HAL HA1b
    obtain ⟨l', fs, A6, c6, rfl, L, HAb⟩ := hrel
    obtain ⟨⟨q1, q1f⟩, q2, q2f⟩ := (H4.out.keep L.out.bel).cells
    have hl63 : l'.length ≤ 4398046511104 := L.out.len
    have HU0 := Oct.refNumber_calls A6 c6 l' 0 4 wr L.out.rdw L.out.by_ (by omega) (by decide) (by decide) (by decide) (by decide)
    replace HU0 : Calls Try.prog 33 #[.slice A6 l'.length c6, .int .i64 0, .int .i64 4] wr fun e w' => e = .returned (.tuple #[.int .u64 (Oct.nv l' 0 4), .bool (Oct.nok l' 0 4)]) ∧ wr = w' := HU0
    by_cases hs : l'.length < 4
    · as_aux_lemma =>
      have HP := Lib.hid (ref_done H4.out HLT.out L.out false l' A6 c6 (fd_short hs) L.out.rdw L.out.cap 0 rfl (fun _ => HAb.out))
      rw [Oct.nok_false (Or.inr (by omega))] at HU0
      generalize Oct.nv l' 0 4 = n0 at HU0
      have HU := Lib.hid HU0
      clear hs HU0
      go_wp2_with fail
      refine HU.out.mono ?_
      rintro e w' ⟨rfl, rfl⟩
      go_wp2
      refine bodyPost_ret (results_ctt rfl _ _ b4 47 _ (0, 0) _ rfl HP.out.2 Try.underlying47 rfl infoRd) rfl ?_
      exact HP.out.1
    · rw [Oct.nok_true (by decide) (by omega)] at HU0
      have hr := Oct.nv_range l' L.out.by_ 0 4
      have hn4 : len4 l' = Oct.nv l' 0 4 := rfl
      by_cases hbad : len4 l' = 0 ∨ 65536 < len4 l'
      · as_aux_lemma =>
        have HP := Lib.hid (ref_done H4.out HLT.out L.out true [] none 0 (fd_bad hs hbad) (Kd.C_nil _ _) (Nat.le_refl _) 30 rfl (fun h => by cases h))
        rw [hn4] at hbad
        generalize Oct.nv l' 0 4 = n0 at HU0 hr hbad
        have HU := Lib.hid HU0
        have hr0 := hr.1
        have hr1 : n0 < 4294967296 := hr.2
        clear hs hn4 hr HU0
        rcases hbad with h0 | h0
        · subst h0
          go_wp2_with fail
          refine HU.out.mono ?_
          rintro e w' ⟨rfl, rfl⟩
          go_wp2
          refine bodyPost_ret (results_ctt rfl _ _ b4 47 _ (0, 0) _ rfl HP.out.2 Try.underlying47 rfl infoRd) rfl ?_
          exact HP.out.1
        · have h0b : ¬ n0 < 1 := by omega
          go_wp2_with fail
          refine HU.out.mono ?_
          rintro e w' ⟨rfl, rfl⟩
          go_wp2
          refine bodyPost_ret (results_ctt rfl _ _ b4 47 _ (0, 0) _ rfl HP.out.2 Try.underlying47 rfl infoRd) rfl ?_
          exact HP.out.1
      · have hr0 : 0 ≤ len4 l' := hr.1
        obtain ⟨m, hm⟩ := Int.eq_ofNat_of_zero_le hr0
        have hmn : Oct.nv l' 0 4 = (m : Int) := hm
        have HUB := Oct.refNumber_calls A6 c6 l' (4 + (m : Int)) 4 wr L.out.rdw L.out.by_ (by omega) (by decide) (by decide) (by omega) (by omega)
        replace HUB : Calls Try.prog 33 #[.slice A6 l'.length c6, .int .i64 (4 + (m : Int)), .int .i64 4] wr fun e w' => e = .returned (.tuple #[.int .u64 (Oct.nv l' (4 + (m : Int)) 4), .bool (Oct.nok l' (4 + (m : Int)) 4)]) ∧ wr = w' := HUB
        have hm1 : 1 ≤ m := by omega
        have hm2 : m ≤ 65536 := by omega
        rw [hmn] at HU0
        have HU := Lib.hid HU0
        have h0b : ¬ (m : Int) < 1 := by omega
        have h0c : ¬ (65536 : Int) < (m : Int) := by omega
        have wi : IntKind.i64.wrap (m : Int) = (m : Int) := by rw [IntKind.wrap_i64]; omega
        by_cases hw8 : (l'.length : Int) < len4 l' + 8
        · as_aux_lemma =>
          have HP := Lib.hid (ref_done H4.out HLT.out L.out false l' A6 c6 (fd_wait hs hbad hw8) L.out.rdw L.out.cap 0 rfl (fun _ => HAb.out))
          rw [hm] at hw8
          rw [Oct.nok_false (Or.inr (by omega))] at HUB
          generalize Oct.nv l' (4 + (m : Int)) 4 = n1 at HUB
          have HU2 := Lib.hid HUB
          clear hs hbad hn4 hr hm hmn hw8 HUB HU0 hr0
          go_wp2_with fail
          refine HU.out.mono ?_
          rintro e w' ⟨rfl, rfl⟩
          go_wp2_with fail
          refine HU2.out.mono ?_
          rintro e w' ⟨rfl, rfl⟩
          go_wp2
          refine bodyPost_ret (results_ctt rfl _ _ b4 47 _ (0, 0) _ rfl HP.out.2 Try.underlying47 rfl infoRd) rfl ?_
          exact HP.out.1
        · as_aux_lemma =>
          have HS4 := Lib.hid (And.intro hs (And.intro hbad hw8))
          have HM := Lib.hid hm
          rw [hm] at hw8
          have hm8 : m + 8 ≤ l'.length := by omega
          have hl4 : (4 : Int) < (l'.length : Int) := by omega
          rw [Oct.nok_true (by omega) (by omega)] at HUB
          have hr4 := Oct.nv_range l' L.out.by_ (4 + (m : Int)) 4
          obtain ⟨ad, e1, hx4⟩ := Kd.at_int L.out.rd_ 4 (by omega) (by omega)
          cases e1
          have HX4 := Lib.hid (fun (W : World) (hW : Below w1.heap.size w1 W) => show W.cell? ⟨ad.block, ad.off + 4, none⟩ = some (.int .u8 (rd l' 4)) from by
            have h : w1.cell? (ad.add 4) = some (.int .u8 (rd l' 4)) := hx4
            have h2 : w1.cell? ⟨ad.block, ad.off + 4, none⟩ = some (.int .u8 (rd l' 4)) := by rw [← h]; simp [Addr.add]
            exact (hW.cell (World.block_lt_of_cell? w1 _ h2)).trans h2)
          have hcut5 : ∀ W, (Instr.slice 22 (.slice (some ad) l'.length c6) (some (.int .i64 5)) (some (.int .i64 (4 + (m : Int)))) none).run Try.prog W = .ok (.slice (if c6 = 5 then some ad else (some ad).map (·.add 5)) (m - 1) (c6 - 5)) W := fun W => by
            have h := cut_lhK (P := Try.prog) 22 5 Try.underlying22 HI.out.1 HI.out.2 .i64 .i64 (some ad) l'.length c6 5 (4 + m) (by omega) (by have := L.out.cap; omega) W
            rw [show 4 + m - 5 = m - 1 by omega, show ((4 + m : Nat) : Int) = 4 + (m : Int) by omega] at h
            exact h
          have hcut4 : ∀ W, (Instr.slice 22 (.slice (some ad) l'.length c6) (some (.int .i64 4)) (some (.int .i64 (4 + (m : Int)))) none).run Try.prog W = .ok (.slice (if c6 = 4 then some ad else (some ad).map (·.add 4)) m (c6 - 4)) W := fun W => by
            have h := cut_lhK (P := Try.prog) 22 5 Try.underlying22 HI.out.1 HI.out.2 .i64 .i64 (some ad) l'.length c6 4 (4 + m) (by omega) (by have := L.out.cap; omega) W
            rw [show 4 + m - 4 = m by omega, show ((4 + m : Nat) : Int) = 4 + (m : Int) by omega] at h
            exact h
          have hcut8 : ∀ W, (Instr.slice 22 (.slice (some ad) l'.length c6) (some (.int .i64 (4 + (m : Int) + 4))) none none).run Try.prog W = .ok (.slice (if c6 = 8 + m then some ad else (some ad).map (·.add (8 + m))) (l'.length - (8 + m)) (c6 - (8 + m))) W := fun W => by
            have h := cut_lK (P := Try.prog) 22 5 Try.underlying22 HI.out.1 HI.out.2 .i64 (some ad) l'.length c6 (8 + m) (by omega) W
            rw [show ((8 + m : Nat) : Int) = 4 + (m : Int) + 4 by omega] at h
            exact h
          have C5 := Oct.seg_C L.out.rdw L.out.cap 5 (4 + m) (by omega) (by omega)
          have C4 := Oct.seg_C L.out.rdw L.out.cap 4 (4 + m) (by omega) (by omega)
          have C8 := drop_C L.out.rd_ L.out.cap (8 + m) (by omega)
          rw [show 4 + m - 5 = m - 1 by omega] at C5
          rw [show 4 + m - 4 = m by omega] at C4
          obtain ⟨B5, hB5⟩ : ∃ B, B = (if c6 = 5 then some ad else (some ad).map (·.add 5)) := ⟨_, rfl⟩
          obtain ⟨B4, hB4⟩ : ∃ B, B = (if c6 = 4 then some ad else (some ad).map (·.add 4)) := ⟨_, rfl⟩
          obtain ⟨B8, hB8⟩ : ∃ B, B = (if c6 = 8 + m then some ad else (some ad).map (·.add (8 + m))) := ⟨_, rfl⟩
          rw [← hB5] at hcut5 C5
          rw [← hB4] at hcut4 C4
          rw [← hB8] at hcut8 C8
          obtain ⟨d5, hd5⟩ : ∃ d, d = c6 - 5 := ⟨_, rfl⟩
          obtain ⟨d4, hd4⟩ : ∃ d, d = c6 - 4 := ⟨_, rfl⟩
          obtain ⟨d8, hd8⟩ : ∃ d, d = c6 - (8 + m) := ⟨_, rfl⟩
          rw [← hd5] at hcut5
          rw [← hd4] at hcut4
          rw [← hd8] at hcut8
          have HD := Lib.hid (show m - 1 ≤ d5 ∧ m ≤ d4 ∧ l'.length - (8 + m) ≤ d8 from by have := L.out.cap; omega)
          have e5 : ((l'.drop 5).take (m - 1)).length = m - 1 := by rw [List.length_take, List.length_drop]; omega
          have e4 : ((l'.drop 4).take m).length = m := by rw [List.length_take, List.length_drop]; omega
          have HC5 := Lib.hid (show Kd.C ku8 wr B5 ((l'.drop 5).take (m - 1)).length ((l'.drop 5).take (m - 1)) by rw [e5]; exact C5)
          have HC8 := Lib.hid C8
          have HB8 : Hid (∀ a8, B8 = some a8 → w.heap.size ≤ a8.block) := Lib.hid (fun a8 h8 => by
            rw [hB8] at h8
            split at h8
            · exact HAb.out a8 h8
            · simp only [Option.map_some, Option.some.injEq] at h8
              rw [← h8, add_blk]
              exact HAb.out ad rfl)
          obtain ⟨q, hq⟩ : ∃ q : Int, q = ((Sums.more 0 ((l'.drop 4).take m)).toNat : Int) := ⟨_, rfl⟩
          have HCR : Hid (Calls Try.prog 31 #[.int .u32 0, .slice B4 m d4] wr fun e w' => e = .returned (.int .u32 q) ∧ wr = w') := Lib.hid (by
            have h := Sums.refMore_calls 0 B4 d4 ((l'.drop 4).take m) wr (by rw [e4]; exact C4) ((L.out.by_.drop _).take _) (by rw [e4]; omega)
            rw [e4] at h
            rw [hq]
            exact h)
          have HQ := Lib.hid hq
          obtain ⟨s4, hs4⟩ : ∃ s, s = Oct.nv l' (4 + (m : Int)) 4 := ⟨_, rfl⟩
          rw [← hs4] at hr4 HUB
          have HU2 := Lib.hid HUB
          have HS := Lib.hid hs4
          have HE5 := Lib.hid e5
          have hs0 := hr4.1
          have hs1 : s4 < 4294967296 := hr4.2
          have ws : IntKind.u32.wrap s4 = s4 := by rw [IntKind.wrap_u32]; omega
          clear hs hbad hw8 hn4 hr hm hmn hr4 hs4 hr0 hq C5 C4 C8 hB5 hB4 hB8 hd5 hd4 hd8 e5 e4 hx4 HUB HU0
          go_wp2_with fail
          refine HU.out.mono ?_
          rintro e w' ⟨rfl, rfl⟩
          go_wp2_with fail
          refine HU2.out.mono ?_
          rintro e w' ⟨rfl, rfl⟩
          clear HU HU2
          go_wp2_with fail
          refine HCR.out.mono ?_
          rintro e w' ⟨rfl, rfl⟩
          clear HCR hcut4
          by_cases hsq : s4 = q
          · have hsqb : (s4 != q) = false := bne_eq_false_iff_eq.2 hsq
            have HF := Lib.hid (fd_ok HS4.out.1 HS4.out.2.1 (Int.not_lt.2 (by have := HS4.out.2.2; omega)) (by rw [HM.out, ← HS.out, hsq, HQ.out]; rfl))
            rw [HM.out] at HF
            clear hsq q1 q1f q2 q2f ws
            go_upto_region 16 with (fail)
            have HB1 := Lib.hid (below_drew1 L.out.bel)
            have HBr := Lib.hid (below_drew1 (Below.refl wr.heap.size wr))
            have HOw := Lib.hid (Kd.R_drew L.out.own)
            have HCl : Hid (∀ W, Below wr.heap.size wr W → Calls Try.prog 12 #[.slice B5 (m - 1) d5] W fun e w' => ∃ A' c', e = .returned (.slice A' (m - 1) c') ∧ Kd.R ku8 5 w' W.heap.size (fun _ => True) (.slice A' (m - 1) c') ((l'.drop 5).take (m - 1)) ∧ Below W.heap.size W w') := Lib.hid (fun W hW => by
              have h := Low.copy_calls B5 d5 ((l'.drop 5).take (m - 1)) W (Kd.C_below HC5.out hW) (by rw [HE5.out]; omega)
              rw [HE5.out] at h
              refine h.mono ?_
              rintro e w' ⟨v, rfl, hR, hb⟩
              obtain ⟨A', c', rfl⟩ := Kd.R_slice hR
              rw [HE5.out] at hR ⊢
              exact ⟨A', c', rfl, hR, hb⟩)
            refine start_ (n := 12) (S := fun w' => w'.cell? ⟨ad.block, ad.off + 4, none⟩ = some (.int .u8 (rd l' 4))) (ds := []) #[false, false, false, false, false, false, false, false, false, false, false, false] (by kernel_rfl) rfl rfl (HX4.out _ HB1.out) (fun hHeld => ?_)
            refine with_tabW ref_Feed.tab16 ref_Feed.bits16 (fun HT_ HW_ => ?_)
            refine pure_ (i := 0) (N := some 63) (v := ?_) (a' := ?_) #[true, false, false, false, false, false, false, false, false, false, false, false] rfl rfl (any_of HT_.out (by kernel_rfl)) (fun _ _ _ h => h) (Or.inl ⟨by rfl, ?_⟩) ?_ ?_
            rotate_left
            · intro w'
              go_simp
              with_reducible rfl
            rotate_left
            · simp only [Act.put, List.setIfInBounds_toArray, List.set_cons_zero, List.set_cons_succ, i64_w, i32_w]
              rfl
            refine pure_ (i := 1) (N := some 64) (v := ?_) (a' := ?_) #[true, true, false, false, false, false, false, false, false, false, false, false] rfl rfl (any_of HT_.out (by kernel_rfl)) (fun _ _ _ h => h) (Or.inl ⟨by rfl, ?_⟩) ?_ ?_
            rotate_left
            · intro w'
              go_simp
              with_reducible rfl
            rotate_left
            · simp only [Act.put, List.setIfInBounds_toArray, List.set_cons_zero, List.set_cons_succ, i64_w, i32_w]
              rfl
            refine pure_ (i := 2) (N := some 65) (v := ?_) (a' := ?_) #[true, true, true, false, false, false, false, false, false, false, false, false] rfl rfl (any_of HT_.out (by kernel_rfl)) (fun _ _ _ h => h) (Or.inl ⟨by rfl, ?_⟩) ?_ ?_
            rotate_left
            · intro w'
              go_simp
              with_reducible rfl
            rotate_left
            · simp only [Act.put, List.setIfInBounds_toArray, List.set_cons_zero, List.set_cons_succ, i64_w, i32_w]
              rfl
            refine pure_ (i := 4) (N := some 67) (v := ?_) (a' := ?_) #[true, true, true, false, true, false, false, false, false, false, false, false] rfl rfl (any_of HT_.out (by kernel_rfl)) (fun _ _ _ h => h) (Or.inl ⟨by rfl, ?_⟩) ?_ ?_
            rotate_left
            · intro w'
              go_simp
              with_reducible rfl
            rotate_left
            · simp only [Act.put, List.setIfInBounds_toArray, List.set_cons_zero, List.set_cons_succ, i64_w, i32_w]
              rfl
            refine pure_ (i := 5) (N := some 68) (v := ?_) (a' := ?_) #[true, true, true, false, true, true, false, false, false, false, false, false] rfl rfl (any_of HT_.out (by kernel_rfl)) (fun _ _ _ h => h) (Or.inl ⟨by rfl, ?_⟩) ?_ ?_
            rotate_left
            · intro w'
              go_simp
              with_reducible rfl
            rotate_left
            · simp only [Act.put, List.setIfInBounds_toArray, List.set_cons_zero, List.set_cons_succ, i64_w, i32_w]
              rfl
            refine pure_ (i := 6) (N := some 69) (v := ?_) (a' := ?_) #[true, true, true, false, true, true, true, false, false, false, false, false] rfl rfl (any_of HT_.out (by kernel_rfl)) (fun _ _ _ h => h) (Or.inl ⟨by rfl, ?_⟩) ?_ ?_
            rotate_left
            · intro w'
              go_simp
              with_reducible rfl
            rotate_left
            · simp only [Act.put, List.setIfInBounds_toArray, List.set_cons_zero, List.set_cons_succ, i64_w, i32_w]
              rfl
            refine take_ (i := 3) (N := some 66) (v := ?_) (a' := ?_) #[true, true, true, true, true, true, true, false, false, false, false, false] rfl rfl (take_ofW HT_.out HW_.out (by kernel_rfl)) (fun _ _ _ h => h) (Or.inl ⟨by rfl, ?_⟩) hHeld ?_ ?_
            rotate_left
            · intro w' s0
              go_simp
              with_reducible rfl
            rotate_left
            · simp only [Act.put, List.setIfInBounds_toArray, List.set_cons_zero, List.set_cons_succ, i64_w, i32_w]
              rfl
            refine one_ (i := 7) (N := some 70) #[true, true, true, true, true, true, true, true, false, false, false, false] rfl rfl (one_of HT_.out (by kernel_rfl)) (by decide) (fun K hK => ?_)
            refine goes_ Try.func12 (by kernel_rfl) rfl #[.slice B5 (m - 1) d5] (by rfl) rfl rfl (by simp only [List.map_toArray, List.map_cons, List.map_nil]; rfl) ?_
            with_reducible refine (HCl.out _ HBr.out).mono ?_
            rintro e w5 ⟨A5, c5, rfl, hR, hb⟩
            refine ⟨_, rfl, ?_⟩
            have HZ := Lib.hid HB1.out.size
            replace HOw := Lib.hid (Kd.R_below HOw.out hb)
            replace HB1 := Lib.hid (below_then HB1.out HB1.out.size hb)
            have HRx := Lib.hid (Kd.R_apartR (Kd.R_lower hR HZ.out) HOw.out (by decide))
            clear hb hR
            refine hK.out _ _ (HX4.out _ HB1.out) (fun hHeld => ?_)
            clear hK K
            refine norm_ (a' := ?_) ?_ ?_
            rotate_left
            · show Act.put _ (some 70) _ = _
              simp only [Act.put, List.setIfInBounds_toArray, List.set_cons_zero, List.set_cons_succ, i64_w, i32_w]
              rfl
            refine pure_ (i := 8) (N := some 71) (v := ?_) (a' := ?_) #[true, true, true, true, true, true, true, true, true, false, false, false] rfl rfl (any_of HT_.out (by kernel_rfl)) (fun _ _ _ h => h) (Or.inl ⟨by rfl, ?_⟩) ?_ ?_
            rotate_left
            · intro w'
              go_simp
              with_reducible rfl
            rotate_left
            · simp only [Act.put, List.setIfInBounds_toArray, List.set_cons_zero, List.set_cons_succ, i64_w, i32_w]
              rfl
            refine one_ (i := 9) (N := some 72) #[true, true, true, true, true, true, true, true, true, true, false, false] rfl rfl (one_of HT_.out (by kernel_rfl)) (by decide) (fun K hK => ?_)
            refine value_ (w1 := ?_) (v := ?_) (by rfl) rfl ?_ ?_
            rotate_left 2
            · go_simp
              constructor
              · rfl
              · rfl
            have HB9 := Lib.hid (below_then HB1.out HB1.out.size (below_alloc (Below.refl _ _) (.cells #[.int .u8 (rd l' 4), .slice A5 (m - 1) c5] 27)))
            refine hK.out _ _ (HX4.out _ HB9.out) (fun hHeld => ?_)
            clear hK K
            refine norm_ (a' := ?_) ?_ ?_
            rotate_left
            · show Act.put _ (some 72) _ = _
              simp only [Act.put, List.setIfInBounds_toArray, List.set_cons_zero, List.set_cons_succ, i64_w, i32_w]
              rfl
            refine one_ (i := 10) (N := some 73) #[true, true, true, true, true, true, true, true, true, true, true, false] rfl rfl (one_of HT_.out (by kernel_rfl)) (by decide) (fun K hK => ?_)
            refine Kd.R_append_step k27 (w0 := w1) w1.heap.size (by rfl) (.tmp 63) (.tmp 72) 30 27 (.agg #[.int .u8 0, .slice none 0 0]) 32 rfl Try.underlying30 infoFr rfl (by decide) (by omega) u8 fs (⟨rd l' 4, (l'.drop 5).take (m - 1)⟩ : Fr) [.int .u8 (rd l' 4), .slice A5 (m - 1) c5] (fun _ => True) (fun k => True ∧ some k ≠ u8.ownBlock) rfl rfl (k27_mkM _ _ _ (⟨rd l' 4, (l'.drop 5).take (m - 1)⟩ : Fr) HRx.out) (fun _ hk => hk) (fun _ _ => trivial) HOw.out HB1.out HB1.out.size (by have := L.out.fl; omega) ?_
            intro v8 w6 ho hb _ _
            have HO6 := Lib.hid ho
            clear HB1 HB9
            have HB1 := Lib.hid hb
            clear ho hb
            refine hK.out _ _ (HX4.out _ HB1.out) (fun hHeld => ?_)
            clear hK K
            refine norm_ (a' := ?_) ?_ ?_
            rotate_left
            · show Act.put _ (some 73) _ = _
              simp only [Act.put, List.setIfInBounds_toArray, List.set_cons_zero, List.set_cons_succ, i64_w, i32_w]
              rfl
            refine pure_ (i := 11) (N := some 8) (v := ?_) (a' := ?_) #[true, true, true, true, true, true, true, true, true, true, true, true] rfl rfl (any_of HT_.out (by kernel_rfl)) (fun _ _ _ h => h) (Or.inl ⟨by rfl, ?_⟩) ?_ ?_
            rotate_left
            · intro w'
              go_simp
              with_reducible rfl
            rotate_left
            · simp only [Act.put, List.setIfInBounds_toArray, List.set_cons_zero, List.set_cons_succ, i64_w, i32_w]
              rfl
            refine done_ (done_of HT_.out (by kernel_rfl)) ?_
            
            go_wp2
            go_roundw
            case rel => exact ⟨l'.drop (8 + m), fs ++ [(⟨rd l' 4, (l'.drop 5).take (m - 1)⟩ : Fr)], B8, d8, by rw [List.length_drop], Lib.hid ⟨by rw [L.out.fd, HF.out]; simp, L.out.by_.drop _, by have := L.out.len; rw [List.length_drop]; omega, by have := L.out.fl; rw [List.length_drop, List.length_append]; simp only [List.length_cons, List.length_nil]; omega, HC8.out, by rw [List.length_drop]; exact HD.out.2.2, HO6.out, HB1.out⟩, HB8⟩
            case measure => simp [lenOf]; omega
          · have hsqb : (s4 != q) = true := bne_iff_ne.2 hsq
            have HP := Lib.hid (ref_done H4.out HLT.out L.out true [] none 0 (fd_sum HS4.out.1 HS4.out.2.1 (Int.not_lt.2 (by have := HS4.out.2.2; omega)) (by rw [HM.out, ← HS.out]; intro h; exact hsq (by rw [h, HQ.out]; rfl))) (Kd.C_nil _ _) (Nat.le_refl _) 30 rfl (fun h => by cases h))
            clear hsq
            go_wp2
            refine bodyPost_ret (results_ctt rfl _ _ b4 47 _ (0, 0) _ rfl HP.out.2 Try.underlying47 rfl infoRd) rfl ?_
            exact HP.out.1
end Go.Proofs.Ytajlmjmhkhdmdaa.PF
