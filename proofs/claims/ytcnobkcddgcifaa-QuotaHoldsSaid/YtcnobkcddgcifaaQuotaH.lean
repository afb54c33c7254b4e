/- QuotaHolds: jobs that start where they may never exceed a limit. (A part of the print PT.) -/
import Derived.Test.YtcnobkcddgcifaaQuotaA
import Derived.Test.YtcnobkcddgcifaaQuotaW
set_option linter.unusedVariables false
set_option linter.unusedSimpArgs false
namespace Go.Proofs.Ytcnobkcddgcifaa.PT
open Go.RowKit Go.Proofs.YtcnobkcddgcifaaW.PrintWords Go.Proofs.YtcnobkcddgcifaaW.PrintLast Go.Proofs.YtcnobkcddgcifaaW.PrintMore Go.Proofs.Ytcnobkcddgcifaa.Gen Go.Proofs.Ytcnobkcddgcifaa.EvK
theorem wild_calls (s : S32) (A7 : Option Addr) (c7 : Nat) (w : World) (hr : Kd.C k112 w A7 s.f7.length s.f7) (hc : s.f7.length ≤ c7) :
    Calls Try.prog 6 #[.agg (specC s A7 c7)] w fun e w' => e = .returned (.bool (!tameS s)) ∧ Below w.heap.size w w' :=
  musterlaw15_wild.calls s.f0 s.f1 s.f2 s.f3 s.f4 s.f5 s.f6 A7 c7 s.f7 _ w hr hc (wild_f s)
theorem specb_ld {w : World} {g : Nat} {x : S32} {A : Option Addr} {c : Nat} (h : w.heap[g]? = some (.cells (specC x A c) 32 (0, 0))) : (Instr.loadAt 32 (.pointer (some ⟨g, 0, none⟩))).run Try.prog w = .ok (.agg (specC x A c)) w := by
  have hld := run_loadVar_row (P := Try.prog) w g 32 32 (specC x A c) (0, 0) _ h Try.underlying32 rfl infoSpec
  simp only [Instr.loadAt, Instr.sureAddr, Sem.run_bind, Sem.run_pure, Result.andThen_ok, hld]
/-- The job of a spec. -/
def jobS (s : S32) (st : Int) : S53 := ⟨0, 0, 0, s, st, 0, 0, 0, 0, 0⟩
theorem int_at {w : World} {A : Option Addr} {E : List Int} (h : Kd.C (Kd.int .i64) w A E.length E) (i : Nat) (hi : i < E.length) : ∃ ad, A = some ad ∧ w.cell? (ad.add i) = some (.int .i64 E[i]) := by
  obtain ⟨ad, c, e, hl, hK, hc⟩ := Kd.C_get h 0 (i : Int) (by omega) (by omega)
  refine ⟨ad, e, ?_⟩
  have hg : E.getD i 0 = E[i] := by simp [List.getD, hi]
  rw [Int.toNat_natCast, hg] at hK
  have := hc 0 (.int .i64 E[i]) (by rw [show c = [.int .i64 E[i]] from hK]; rfl)
  rw [show (Kd.int .i64).sz = 1 from rfl] at this
  simpa using this
theorem heapDep : Kd.Heap k112 := by
  unfold k112
  exact Kd.heap_iso _ (Kd.heap_pair (Kd.heap_int _) (Kd.heap_int _))
/-- The cells of a job that runs or is over: what they lead to came in. -/
theorem dep_FK {w V : World} (hb : Below w.heap.size w V) (s : S32) {A7 : Option Addr} {c7 : Nat} (h : Kd.C k112 w A7 s.f7.length s.f7) (hc7 : s.f7.length ≤ c7) (st : Int) : Kd.FK k53 V (fun k => k < w.heap.size) (jobS s st) (jobC (jobS s st) A7 c7).toList := fun W' hW =>
  k53_mk W' (jobS s st) hc7 (heapDep.C (fun k hk => (hW k hk (Nat.lt_of_lt_of_le hk hb.size)).trans (hb.block k hk)) h)
theorem over_FK {V : World} {ok : Nat → Prop} {x : S53} {A : Option Addr} {c : Nat} (h : Kd.FK k53 V ok x (jobC x A c).toList) (st : Int) : Kd.FK k53 V ok { x with f4 := st } (jobC { x with f4 := st } A c).toList := fun W' hW => by
  obtain ⟨A', c', e, l, g⟩ := k53_open (h W' hW)
  unfold jobC at e
  simp only [List.cons.injEq, Value.slice.injEq, Value.int.injEq, and_true, true_and] at e
  obtain ⟨rfl, rfl⟩ := e
  exact k53_mk W' { x with f4 := st } l g
theorem may_says {q : List S59} {ac : List S57} (hr : rightQ q ac = true) (l : List S53) (s : S32) : mayQ q ac l s = 0 ∨ mayQ q ac l s = 141 ∨ mayQ q ac l s = 150 := by
  unfold mayQ
  rw [if_pos hr]
  split
  · split
    · exact Or.inr (Or.inr rfl)
    · split
      · exact Or.inr (Or.inr rfl)
      · exact Or.inl rfl
  · exact Or.inr (Or.inl rfl)
/-- What the loop holds. -/
structure HLD (w W wr : World) (g : Nat) (cs : Array Value) (q : List S59) (ac : List S57) (S : List S32) (v : Value) (i : Nat) (L : List S53) : Prop where
  bel : Below W.heap.size W wr
  row : Kd.N k53 53 wr W.heap.size (fun _ => True) v L
  fine : Fine q ac L
  len : L.length ≤ i
theorem HLD.below {w W wr w1 : World} {g : Nat} {cs : Array Value} {q : List S59} {ac : List S57} {S : List S32} {v : Value} {i : Nat} {L : List S53} (h : HLD w W wr g cs q ac S v i L) (hb : Below wr.heap.size wr w1) : HLD w W w1 g cs q ac S v i L :=
  ⟨below_then h.bel h.bel.size hb, Kd.N_below h.row hb, h.fine, h.len⟩
set_option maxRecDepth 100000 in
set_option maxHeartbeats 16000000 in
theorem holds_law {w : World} {cs : Array Value} {q : List S59} {ac : List S57} (h : Cfg w cs q ac) (S : List S32) (E : List Int) (A1 : Option Addr) (c1 : Nat) (A2 : Option Addr) (c2 : Nat) (hr1 : Kd.C k32 w A1 S.length S) (hc1 : S.length ≤ c1) (hr2 : Kd.C (Kd.int .i64) w A2 E.length E) (hc2 : E.length ≤ c2) :
    Calls Try.prog 4 #[.agg cs, .slice A1 S.length c1, .slice A2 E.length c2] w fun e w' => e = .returned (.bool true) ∧ Below w.heap.size w w' := by
  have HQ := Lib.hid h
  have hE9 : E.length ≤ 9223372036854775807 := hr2.2.1
  have HA := Lib.hid (And.intro hr1 hc1)
  have HE := Lib.hid (And.intro hr2 hc2)
  obtain ⟨n1, hn1⟩ : ∃ n, n = S.length := ⟨_, rfl⟩
  obtain ⟨n2, hn2⟩ : ∃ n, n = E.length := ⟨_, rfl⟩
  rw [← hn1]
  rw [← hn2] at hE9 ⊢
  have HN := Lib.hid (And.intro hn1 hn2)
  obtain ⟨A0, c0, l0, B1, d1, l1, B2, d2, B3, d3, pl, rfl, _⟩ := h.is
  clear h hr1 hc1 hr2 hc2 hn1 hn2
  have HO : Hid ((w.alloc (.cells (cfgV A0 l0.length c0 B1 l1.length d1 B2 ac.length d2 B3 q.length d3 pl) 28)).heap[w.heap.size]? = some (.cells (cfgV A0 l0.length c0 B1 l1.length d1 B2 ac.length d2 B3 q.length d3 pl) 28 (0, 0))) := Lib.hid (heap_alloc_new w _)
  have HB := Lib.hid (below_alloc (Below.refl w.heap.size w) (.cells (cfgV A0 l0.length c0 B1 l1.length d1 B2 ac.length d2 B3 q.length d3 pl) 28))
  go_enter Try.func4, Try.ntmps4
  go_upto_region 1 with (fail)
  generalize w.alloc _ = W at HO HB ⊢
  obtain ⟨g, hg⟩ : ∃ g, g = w.heap.size := ⟨_, rfl⟩
  rw [← hg] at HO ⊢
  clear hg
  have HRt := Lib.hid (cright_calls (HQ.out.below HB.out))
  go_wp2_with (first | ((with_reducible refine gate_ (.load 28 (.tmp 3)) rfl ?_); refine wl_load 28 (.tmp 3) rfl rfl _ _ rfl (cfg_ld HO.out) ?_) | fail)
  refine HRt.out.mono ?_
  rintro e w1 ⟨rfl, hb⟩
  have HB1 := Lib.hid (below_then HB.out HB.out.size hb)
  have HO1 := Lib.hid ((hb.block g (blk_lt HO.out)).trans HO.out)
  clear hb HRt HO HB
  cases hrq : rightQ q ac with
  | false =>
    go_wp2_with fail
    refine (awake15_calls _).mono ?_
    rintro e wz ⟨rfl, hb⟩
    have HBz := Lib.hid (below_then HB1.out HB1.out.size hb)
    clear hb
    go_wp2
    go_ret
    exact ⟨rfl, HBz.out⟩
  | true =>
    have HR := Lib.hid hrq
    clear hrq
    by_cases h40 : (40 : Int) < (n1 : Int)
    · go_wp2_with fail
      refine (awake15_calls _).mono ?_
      rintro e wz ⟨rfl, hb⟩
      have HBz := Lib.hid (below_then HB1.out HB1.out.size hb)
      clear hb
      go_wp2
      go_ret
      exact ⟨rfl, HBz.out⟩
    · have H0 : Hid (HLD w w1 w1 g (cfgV A0 l0.length c0 B1 l1.length d1 B2 ac.length d2 B3 q.length d3 pl) q ac S (.slice none 0 0) 0 []) := Lib.hid ⟨Below.refl _ _, Kd.N_nil _ _ _ _ _, fine_nil HR.out, Nat.le_refl _⟩
      go_wp2_with fail
      go_loopw [7, 22] (fun v7 v22 wr => ∃ (i : Nat) (L : List S53), i ≤ n1 ∧ v22 = .int .i64 i ∧ Hid (HLD w w1 wr g (cfgV A0 l0.length c0 B1 l1.length d1 B2 ac.length d2 B3 q.length d3 pl) q ac S v7 i L)) (fun _ v22 _ => n1 - (intOf v22).toNat)
      case atStart => exact ⟨0, [], Nat.zero_le _, rfl, H0⟩
      case round =>
        clear H0
        obtain ⟨i, L, hi, rfl, H⟩ := hrel
        have H40 := Lib.hid h40
        clear h40
        by_cases hlt : i < n1
        · skip
          have hil : i < S.length := by have := HN.out.1; omega
          obtain ⟨ad, csx, e1, hK, hld0⟩ := load_mid (t := 32) Try.underlying32 rfl infoSpec HA.out.1 i hil
          obtain ⟨s, hs⟩ : ∃ s, s = S[i] := ⟨_, rfl⟩
          rw [← hs] at hK
          obtain ⟨A7, c7, rfl, hc7, hr7⟩ := k32_open hK
          have HD := Lib.hid (And.intro hr7 hc7)
          have hld : (Instr.loadAt 32 (.pointer (some (ad.add (i * 8))))).run Try.prog wr = .ok (.agg (specC s A7 c7)) wr := hld0 wr (below_then HB1.out HB1.out.size H.out.bel)
          clear hld0 hK hr7 hc7 hs hil
          cases e1
          unfold specC at hld
          obtain ⟨A8, c8, hv8⟩ := Kd.N_slice H.out.row
          obtain ⟨n8, hn8⟩ : ∃ n, n = L.length := ⟨_, rfl⟩
          rw [← hn8] at hv8
          subst hv8
          have HN8 := Lib.hid hn8
          clear hn8
          go_upto_region 7 with ((with_reducible refine gate_ (.load 32 (.tmp 25)) rfl ?_); refine wl_load 32 (.tmp 25) rfl rfl _ _ rfl hld ?_)
          have HX : Hid ((wr.alloc (.cells (specC s A7 c7) 32)).heap[wr.heap.size]? = some (.cells (specC s A7 c7) 32 (0, 0))) := Lib.hid (heap_alloc_new wr _)
          have H1 := Lib.hid (H.out.below (below_alloc (Below.refl _ _) (.cells (specC s A7 c7) 32)))
          have HGX : Hid (some wr.heap.size ≠ (Value.slice A8 n8 c8).ownBlock) := Lib.hid (fun he => by have := Kd.N_lt H.out.row _ he.symm; omega)
          unfold specC at HX H1
          clear hld H
          generalize wr.alloc _ = V0 at HX H1 ⊢
          obtain ⟨gx, hgx⟩ : ∃ y, y = wr.heap.size := ⟨_, rfl⟩
          rw [← hgx] at HX HGX ⊢
          clear hgx
          have HW := Lib.hid (wild_calls s A7 c7 V0 (Kd.C_below HD.out.1 (below_then HB1.out HB1.out.size H1.out.bel)) HD.out.2)
          have hld := specb_ld (x := s) (A := A7) (c := c7) HX.out
          unfold specC at HW hld
          go_wp2_with (first | ((with_reducible refine gate_ (.load 32 (.tmp 9)) rfl ?_); refine wl_load 32 (.tmp 9) rfl rfl _ _ rfl hld ?_) | fail)
          refine HW.out.mono ?_
          rintro e V1 ⟨rfl, hb⟩
          have H2 := Lib.hid (H1.out.below hb)
          have HX1 := Lib.hid ((hb.block gx (blk_lt HX.out)).trans HX.out)
          clear hb HW H1 HX hld
          cases hts : tameS s with
          | false =>
            have HBx := Lib.hid (below_then HB1.out HB1.out.size H2.out.bel)
            go_wp2_with fail
            refine (awake15_calls _).mono ?_
            rintro e wz ⟨rfl, hb⟩
            have HBz := Lib.hid (below_then HBx.out HBx.out.size hb)
            clear hb
            go_wp2
            go_ret
            exact ⟨rfl, HBz.out⟩
          | true =>
            have HT := Lib.hid hts
            clear hts
            go_upto_region 9 with (fail)
            obtain ⟨x, hx⟩ : ∃ x, x = E.getD i 0 := ⟨_, rfl⟩
            have HXE := Lib.hid hx
            clear hx
            obtain ⟨b, hb⟩ : ∃ b, b = decide (i < n2 ∧ 0 ≤ x ∧ x < (n8 : Int)) := ⟨_, rfl⟩
            have HBO := Lib.hid hb
            clear hb
            go_cut [49] (fun v49 wc => v49 = .bool b ∧ V1 = wc)
            case first =>
              by_cases hie : i < n2
              · obtain ⟨ad2, e2, hce0⟩ := int_at (Kd.C_below HE.out.1 (below_then HB1.out HB1.out.size H2.out.bel)) i (by have := HN.out.2; omega)
                rw [show E[i]'(by have := HN.out.2; omega) = x by rw [HXE.out]; simp [List.getD, (show i < E.length by have := HN.out.2; omega)]] at hce0
                cases e2
                by_cases hx0 : 0 ≤ x
                · by_cases hxl : x < (n8 : Int)
                  · have HBT : Hid (b = true) := Lib.hid (by rw [HBO.out]; exact decide_eq_true ⟨hie, hx0, hxl⟩)
                    go_wp2
                    go_meet
                    case rel => exact ⟨by rw [HBT.out], rfl⟩
                  · have HBT : Hid (b = false) := Lib.hid (by rw [HBO.out]; exact decide_eq_false (fun h => hxl h.2.2))
                    go_wp2
                    go_meet
                    case rel => exact ⟨by rw [HBT.out], rfl⟩
                · have HBT : Hid (b = false) := Lib.hid (by rw [HBO.out]; exact decide_eq_false (fun h => hx0 h.2.1))
                  go_wp2
                  go_meet
                  case rel => exact ⟨by rw [HBT.out], rfl⟩
              · have HBT : Hid (b = false) := Lib.hid (by rw [HBO.out]; exact decide_eq_false (fun h => hie h.1))
                go_wp2
                go_meet
                case rel => exact ⟨by rw [HBT.out], rfl⟩
            case rest =>
              obtain ⟨rfl, rfl⟩ := hcut
              go_upto_if 49 with (fail)
              go_cut [] (fun wc => ∃ M : List S53, Hid (n8 = M.length) ∧ Hid (HLD w w1 wc g (cfgV A0 l0.length c0 B1 l1.length d1 B2 ac.length d2 B3 q.length d3 pl) q ac S (.slice A8 n8 c8) i M) ∧ Hid (wc.heap[gx]? = some (.cells (specC s A7 c7) 32 (0, 0))))
              case first =>
                cases b with
                | false =>
                  go_wp2
                  go_meet
                  case rel => exact ⟨L, HN8, H2, HX1⟩
                | true =>
                  obtain ⟨hie, hx0, hxl⟩ := of_decide_eq_true HBO.out.symm
                  obtain ⟨m, hm⟩ : ∃ m : Nat, x = m := ⟨x.toNat, by omega⟩
                  obtain ⟨ad2, e2, hce0⟩ := int_at (Kd.C_below HE.out.1 (below_then HB1.out HB1.out.size H2.out.bel)) i (by have := HN.out.2; omega)
                  rw [show E[i]'(by have := HN.out.2; omega) = x by rw [HXE.out]; simp [List.getD, (show i < E.length by have := HN.out.2; omega)]] at hce0
                  clear HBO HXE
                  subst hm
                  cases e2
                  have hmn : m < n8 := by omega
                  obtain ⟨g8, c8', hf8, hg81, hg82, _⟩ := Kd.N_form H2.out.row (by have := HN8.out; omega)
                  obtain ⟨e8, _, e9⟩ : A8 = some ⟨g8, 0, none⟩ ∧ n8 = L.length ∧ c8 = c8' := by simpa using hf8
                  clear hf8 hg81 hg82
                  subst e8
                  subst e9
                  obtain ⟨c, hcl, hFK, hcc, hfr⟩ := Kd.N_elem H2.out.row z53 (m : Int) (by omega) (by omega)
                  obtain ⟨y, hy⟩ : ∃ y, y = L.getD (m : Int).toNat z53 := ⟨_, rfl⟩
                  rw [← hy] at hFK
                  have HYL : Hid (y ∈ L) := Lib.hid (by rw [hy, Int.toNat_natCast]; have h1 : m < L.length := by have := HN8.out; omega
                                                        simp [List.getD, h1])
                  clear hy
                  obtain ⟨A10, c10, rfl, _, _⟩ := k53_open (Kd.FK_now hFK)
                  have HM := Lib.hid (over_FK (A := A10) (c := c10) hFK 3)
                  have HCC := Lib.hid hcc
                  clear hFK hcc hfr hcl
                  go_wp2_with (first | ((with_reducible refine gate_store (t := 49) (p := 56) rfl ?_); refine Kd.N_store k53 (w0 := w1) w1.heap.size rfl rfl 49 (.tmp 56) (.const (.int .u8 3)) rfl 53 (m : Int) 11 L { y with f4 := 3 } (.int .u8 3) [.int .u8 3] _ (fun _ => True) (fun k => True ∧ k ≠ g8) rfl (by first | rfl | (simp; done) | (simp; omega)) rfl rfl (by kernel_rfl) (fun q hq => by rw [List.mem_singleton.1 hq]; rfl) H2.out.row (by omega) (by omega) rfl HCC.out (by decide) HM.out (fun k hk => ⟨trivial, hk.2⟩) H2.out.bel ?_; intro w9 ho hb hg) | fail)
                  go_meet
                  rw [Int.toNat_natCast] at ho
                  case rel => exact ⟨L.set m { y with f4 := 3 }, Lib.hid (by rw [List.length_set]; exact HN8.out), Lib.hid ⟨hb, ho, H2.out.fine.over m { y with f4 := 3 } rfl (H2.out.fine.tame.1 y HYL.out), by rw [List.length_set]; exact H2.out.len⟩, Lib.hid ((hg.block gx (blk_lt HX1.out) HGX.out).trans HX1.out)⟩
              case rest =>
                clear HN8 H2 HX1 HBO HXE
                obtain ⟨M, HN8, H2, HX1⟩ := hcut
                have HRd := Lib.hid (Kd.N_reads' H2.out.row)
                have HO2 := Lib.hid ((H2.out.bel.block g (blk_lt HO1.out)).trans HO1.out)
                have HM := Lib.hid (show Calls Try.prog 17 #[.agg (cfgV A0 l0.length c0 B1 l1.length d1 B2 ac.length d2 B3 q.length d3 pl), .slice A8 n8 c8, .agg (specC s A7 c7)] wc fun e w' => e = .returned (.int .i64 (mayQ q ac M s)) ∧ Below wc.heap.size wc w' by
                  rw [HN8.out]
                  exact cmay_calls (HQ.out.below (below_then HB1.out HB1.out.size H2.out.bel)) (by have := ((right_iff ac).1 (rightQ_iff.1 HR.out).2.2).2.2; omega) M A8 c8 HRd.out.2.2 (by have := HRd.out; omega) H2.out.fine.tame s HT.out A7 c7 (Kd.C_below HD.out.1 (below_then HB1.out HB1.out.size H2.out.bel)) HD.out.2)
                have hld := specb_ld (x := s) (A := A7) (c := c7) HX1.out
                unfold specC at HM hld
                go_wp2_with (first | ((with_reducible refine gate_ (.load 28 (.tmp 3)) rfl ?_); refine wl_load 28 (.tmp 3) rfl rfl _ _ rfl (cfg_ld HO2.out) ?_) | ((with_reducible refine gate_ (.load 32 (.tmp 9)) rfl ?_); refine wl_load 32 (.tmp 9) rfl rfl _ _ rfl hld ?_) | fail)
                refine HM.out.mono ?_
                rintro e V2 ⟨rfl, hb⟩
                have H3 := Lib.hid (H2.out.below hb)
                have HX2 := Lib.hid ((hb.block gx (blk_lt HX1.out)).trans HX1.out)
                clear hb HM H2 HX1 hld HRd HO2
                obtain ⟨r, hr⟩ : ∃ r, r = mayQ q ac M s := ⟨_, rfl⟩
                rw [← hr]
                have HRr := Lib.hid hr
                have hr3 : r = 0 ∨ r = 141 ∨ r = 150 := by rw [hr]; exact may_says HR.out M s
                clear hr
                go_upto_if 62 with (fail)
                go_cut [7] (fun v7 wc => ∃ (M : List S53) (A8 : Option Addr) (n8 c8 : Nat), v7 = .slice A8 n8 c8 ∧ Hid (n8 = M.length) ∧ Hid (HLD w w1 wc g (cfgV A0 l0.length c0 B1 l1.length d1 B2 ac.length d2 B3 q.length d3 pl) q ac S (.slice A8 n8 c8) (i + 1) M))
                case first =>
                  rcases hr3 with rfl | rfl | rfl
                  · have HRd := Lib.hid (Kd.N_reads' H3.out.row)
                    have hld := specb_ld (x := s) (A := A7) (c := c7) HX2.out
                    have HFK := Lib.hid (dep_FK (below_then HB1.out HB1.out.size H3.out.bel) s HD.out.1 HD.out.2 2)
                    unfold specC at hld
                    unfold jobC jobS at HFK
                    have hbase : w.heap.size ≤ w1.heap.size := HB1.out.size
                    go_wp2_with (first | ((with_reducible refine gate_ (.load 32 (.tmp 9)) rfl ?_); refine wl_load 32 (.tmp 9) rfl rfl _ _ rfl hld ?_) | ((with_reducible refine gate_builtin (b := .append) (xs := #[.tmp 63, .tmp 66]) rfl ?_); at_builtin; refine Kd.N_append k53 (w0 := w1) w1.heap.size rfl (.tmp 63) (.tmp 66) 29 53 (.agg #[.int .i64 0, .int .i64 0, .int .i64 0, .string ⟨#[]⟩, .string ⟨#[]⟩, .string ⟨#[]⟩, .string ⟨#[]⟩, .int .i64 0, .int .i64 0, .int .i64 0, .slice none 0 0, .int .u8 0, .int .i64 0, .int .i64 0, .int .i64 0, .int .u32 0, .int .i64 0]) 184 rfl Try.underlying29 infoJobZ rfl (by decide) (by decide) (.slice A8 n8 c8) M (jobS s 2) [.int .i64 0, .int .i64 0, .int .i64 0, .string s.f0, .string s.f1, .string s.f2, .string s.f3, .int .i64 s.f4, .int .i64 s.f5, .int .i64 s.f6, .slice A7 s.f7.length c7, .int .u8 2, .int .i64 0, .int .i64 0, .int .i64 0, .int .u32 0, .int .i64 0] (fun _ => True) (fun k => k < w.heap.size) rfl rfl HFK.out (fun k hk => ⟨trivial, fun e => by have h1 := Kd.N_base H3.out.row k e.symm; have h2 := HB1.out.size; omega⟩) (fun _ _ => trivial) H3.out.row H3.out.bel H3.out.bel.size (by have h1 := H3.out.len; have h2 := H40.out; omega) ?_; intro v9 w9 ho hb _ _; have HI9 := Lib.hid ho; have HB9 := Lib.hid hb; clear ho hb) | fail)
                    have hfi := H3.out.fine.add s HT.out HRr.out.symm (jobS s 2) rfl rfl (by have h1 := H3.out.len; have h2 := H40.out; omega)
                    have HFI := Lib.hid hfi
                    clear hfi
                    obtain ⟨A9, c9, hv9⟩ := Kd.N_slice HI9.out
                    obtain ⟨n9, hn9⟩ : ∃ n, n = (M ++ [jobS s 2]).length := ⟨_, rfl⟩
                    rw [← hn9] at hv9
                    subst hv9
                    go_meet
                    case rel => exact ⟨M ++ [jobS s 2], A9, n9, c9, rfl, Lib.hid hn9, Lib.hid ⟨HB9.out, HI9.out, HFI.out, by rw [List.length_append]; have := H3.out.len; exact Nat.add_le_add_right this 1⟩⟩
                  · go_wp2
                    go_meet
                    case rel => exact ⟨M, A8, n8, c8, rfl, HN8, Lib.hid ⟨H3.out.bel, H3.out.row, H3.out.fine, by have := H3.out.len; omega⟩⟩
                  · go_wp2
                    go_meet
                    case rel => exact ⟨M, A8, n8, c8, rfl, HN8, Lib.hid ⟨H3.out.bel, H3.out.row, H3.out.fine, by have := H3.out.len; omega⟩⟩
                case rest =>
                  clear HN8 H3 HX2 HRr hr3
                  obtain ⟨M, A8, n8, c8, rfl, HN8, H4⟩ := hcut
                  have HRd := Lib.hid (Kd.N_reads' H4.out.row)
                  have HO2 := Lib.hid ((H4.out.bel.block g (blk_lt HO1.out)).trans HO1.out)
                  have HM := Lib.hid (show Calls Try.prog 21 #[.agg (cfgV A0 l0.length c0 B1 l1.length d1 B2 ac.length d2 B3 q.length d3 pl), .slice A8 n8 c8] wc fun e w' => e = .returned (.bool true) ∧ Below wc.heap.size wc w' by
                    rw [HN8.out]
                    exact within_calls (HQ.out.below (below_then HB1.out HB1.out.size H4.out.bel)) M A8 c8 HRd.out.2.2 (by have := HRd.out; omega) H4.out.fine)
                  go_wp2_with (first | ((with_reducible refine gate_ (.load 28 (.tmp 3)) rfl ?_); refine wl_load 28 (.tmp 3) rfl rfl _ _ rfl (cfg_ld HO2.out) ?_) | fail)
                  refine HM.out.mono ?_
                  rintro e V3 ⟨rfl, hb⟩
                  have H5 := Lib.hid (H4.out.below hb)
                  clear hb HM H4 HRd HO2
                  go_wp2
                  go_roundw
                  case rel => first | exact ⟨i + 1, M, by omega, by go_num, H5⟩ | ((repeat apply Exists.intro); exact ⟨⟨i + 1, M, by omega, by go_num, H5⟩, rfl⟩)
                  case measure => simp [intOf]; omega
        · skip
          have hge : ¬ (i : Int) < (n1 : Int) := by omega
          have HBx := Lib.hid (below_then HB1.out HB1.out.size H.out.bel)
          go_wp2_with fail
          refine (awake15_calls _).mono ?_
          rintro e wz ⟨rfl, hb⟩
          have HBz := Lib.hid (below_then HBx.out HBx.out.size hb)
          clear hb
          go_wp2
          go_ret
          exact ⟨rfl, HBz.out⟩
end Go.Proofs.Ytcnobkcddgcifaa.PT
