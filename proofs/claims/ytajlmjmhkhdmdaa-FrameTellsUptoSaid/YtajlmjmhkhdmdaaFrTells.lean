/- FrameTells, walked. -/
import Derived.Test.YtajlmjmhkhdmdaaFrTellsA
import Derived.Test.YtajlmjmhkhdmdaaFrAwake
import Derived.Test.YtajlmjmhkhdmdaaFrCuts
import Derived.Laws.CopyOwn
import Derived.Deep.MidRow
set_option linter.unusedVariables false
set_option linter.unusedSimpArgs false
namespace Go.Proofs.Ytajlmjmhkhdmdaa.PF
open Go.RowKit Go.Proofs.YtajlmjmhkhdmdaaW.PrintWords Go.Proofs.YtajlmjmhkhdmdaaW.PrintLast Go.Proofs.YtajlmjmhkhdmdaaW.PrintMore
attribute [local go_sem] max2_int min2_int max_two min_two
abbrev kPs : Kd (List Int) := Kd.slice 5 ku8
theorem piece_at {w : World} {Ap : Option Addr} {L : List (List Int)} (h : Kd.C kPs w Ap L.length L) (i : Nat) (hi : i < L.length) : ∃ ad B cx, Ap = some ad ∧ w.cell? (ad.add i) = some (.slice B (L[i]).length cx) ∧ (L[i]).length ≤ cx ∧ Kd.C ku8 w B (L[i]).length (L[i]) := by
  obtain ⟨ad, e, hc⟩ := h.2.2 (by omega)
  obtain ⟨cs, h1, h2, h3⟩ := hc i L[i] (by simp [hi])
  obtain ⟨B, cx, rfl, hl, hC⟩ := h2
  refine ⟨ad, B, cx, e, ?_, hl, hC⟩
  have := h3 0 _ rfl
  have e1 : i * kPs.sz + 0 = i := by show i * 1 + 0 = i; omega
  rw [e1] at this
  exact this
theorem putL_bytes {k : Int} {l : List Int} (hl : Bytes l) : Bytes (putL k l) := by
  unfold putL
  split
  · exact fun x hx => by cases hx
  · exact putF_bytes hl
theorem below_low {w w5 w4 : World} (h : Below w5.heap.size w5 w4) (hs : w.heap.size ≤ w5.heap.size) (hb : Below w.heap.size w w5) : Below w.heap.size w w4 := ⟨h.os.trans hb.os, h.tape.trans hb.tape, h.output.trans hb.output, by have := h.size; omega, fun k hk => (h.block k (by omega)).trans (hb.block k hk)⟩
theorem LentO.g {w : World} {g cap : Nat} {l : List Int} (h : LentO w g cap l) : g < w.heap.size := Kd.R_lt h.own g (by simp [Value.ownBlock])
theorem LentO.keep {w w' : World} {g cap : Nat} {l : List Int} (h : LentO w g cap l) (hb : Below w.heap.size w w') : LentO w' g cap l := h.step (hb.block g h.g)
theorem exec_load {P : Program} {o : Oper} {a : Act} {t : TypeId} {x : Operand} {p V : Value} {w' : World} (ho : o.op = .load t x) (hx : a.eval x = p) (hld : (Instr.loadAt t p).run P w' = .ok V w') : (execOp a.eval o).run P w' = .ok (.value V) w' := by
  unfold execOp
  rw [ho]
  simp only [hx, Sem.run_bind, hld, Result.andThen_ok]
  rfl
theorem exec_store {P : Program} {o : Oper} {a : Act} {t : TypeId} {p v : Operand} {W : World} {g : Nat} {t0 : TypeId} {old cells : Array Value} (ho : o.op = .store t p v) (hp : a.eval p = .pointer (some ⟨g, 0, none⟩)) (hv : a.eval v = .agg cells) (hg : W.heap[g]? = some (.cells old t0 (0, 0)))
    (hi : (P.info? t).map (·.size) = some cells.size) (hs : old.size = cells.size) (h1 : cells.all (·.oneCell') = true) : (execOp a.eval o).run P W = .ok .skip (W.setRow g cells) := by
  have h2 := run_storeVar_row (P := P) W g t0 t old cells hg hi hs h1
  unfold execOp
  rw [ho]
  simp only [hp, hv, Instr.storeAt, Instr.sureAddr, Sem.run_bind, Sem.run_pure, Result.andThen_ok, h2]
/-- A box of the document's reader is loaded at once. -/
theorem rd_load {w : World} {b : Nat} {br : Bool} {A : Option Addr} {n c : Nat} (h : w.heap[b]? = some (.cells #[.slice A n c, .bool br] 47 (0, 0))) : (Instr.loadAt 47 (.pointer (some ⟨b, 0, none⟩))).run Try.prog w = .ok (.agg #[.slice A n c, .bool br]) w := by
  have h1 := run_loadVar_row (P := Try.prog) w b 47 47 #[.slice A n c, .bool br] (0, 0) _ h Try.underlying47 rfl infoRd
  simp only [Instr.loadAt, Instr.sureAddr, Sem.run_bind, Sem.run_pure, Result.andThen_ok, h1]
theorem refC {w : World} {br : Bool} {left x : List Int} {Al B : Option Addr} {cl cx : Nat} (hr : Kd.C ku8 w Al left.length left) (hc : left.length ≤ cl) (hx : Kd.C ku8 w B x.length x) (hcx : x.length ≤ cx) (hl : Bytes left) (hxb : Bytes x) (hlen : left.length + x.length ≤ 4398046511104) {fs : List Fr} {br' : Bool} {left' : List Int} (hF : (fs, br', left') = refS br left x) {E : Int} (hE : E = (if br' = true then 30 else 0)) :
    Calls Try.prog 23 #[.agg #[.slice Al left.length cl, .bool br], .slice B x.length cx] w fun e w' => ∃ A' c' Av cv, e = .returned (.tuple #[.agg #[.slice A' left'.length c', .bool br'], .slice Av fs.length cv, .int .i64 E]) ∧ RF w.heap.size fs br' left' A' c' Av cv w' ∧ Below w.heap.size w w' := by
  subst hE
  cases br with
  | true =>
    have e : refS true left x = ([], true, left) := rfl
    rw [e] at hF
    cases hF
    refine (ref_broken left Al cl B x.length cx w hr hc).mono ?_
    rintro e w' ⟨A', c', Av, cv, rfl, h1, h2, h3, h5, h6⟩
    exact ⟨A', c', Av, cv, rfl, ⟨h1, h2, h3, h5⟩, h6⟩
  | false =>
    have e : refS false left x = feedF (left ++ x) := rfl
    rw [e] at hF
    refine (ref_calls left x (left ++ x) rfl Al cl B cx w hr hc hx hcx hl hxb hlen).mono ?_
    rintro e w' ⟨A', c', Av, cv, rfl, h1, h2, h3, h5, h6⟩
    rw [← hF] at h1 h2 h3 h5
    rw [← hF]
    exact ⟨A', c', Av, cv, rfl, ⟨h1, h2, h3, h5⟩, h6⟩
theorem refS_facts {br : Bool} {left x : List Int} {fs : List Fr} {br' : Bool} {left' : List Int} (hF : (fs, br', left') = refS br left x) (hl : Bytes left) (hx : Bytes x) (hlen : left.length + x.length ≤ 4398046511104) (hll : left.length < 65544) (hbl : br = true → left = []) :
    fs.length ≤ 4398046511104 ∧ Bytes left' ∧ left'.length < 65544 ∧ (br' = true → left' = []) := by
  cases br with
  | true =>
    have e : refS true left x = ([], true, left) := rfl
    rw [e] at hF
    cases hF
    exact ⟨by simp, hl, hll, fun _ => hbl rfl⟩
  | false =>
    have e : refS false left x = feedF (left ++ x) := rfl
    rw [e] at hF
    have h1 := feed_left (left ++ x).length (left ++ x) (Nat.le_refl _) (hl.append hx)
    have h2 := feed_count (left ++ x).length (left ++ x) (Nat.le_refl _)
    rw [← hF] at h1 h2
    rw [List.length_append] at h2
    exact ⟨Nat.le_trans h2 hlen, h1.2.2.1, h1.2.1, h1.2.2.2.1⟩
theorem wl_load {P : Program} {ops : Array Oper} {rest : List Oper} {o : Oper} {a : Act} {Q : Exit → Act → World → Prop} {W : World} (t : TypeId) (x : Operand) (ho : o.op = .load t x) (hgd : o.guard = none) (p V : Value) (hx : a.eval x = p) (hld : (Instr.loadAt t p).run P W = .ok V W) (h : wpList P ops Q rest (a.put o.dst V) W) : wpList P ops Q (o :: rest) a W :=
  Kd.event_run hgd (by
    unfold execOp
    rw [ho]
    simp only [hx, Sem.run_bind, hld, Result.andThen_ok]
    rfl) h
theorem wl_store {P : Program} {ops : Array Oper} {rest : List Oper} {o : Oper} {a : Act} {Q : Exit → Act → World → Prop} (t : TypeId) (p v : Operand) {W : World} {g : Nat} {t0 : TypeId} {old cells : Array Value} (ho : o.op = .store t p v) (hgd : o.guard = none) (hp : a.eval p = .pointer (some ⟨g, 0, none⟩)) (hv : a.eval v = .agg cells) (hg : W.heap[g]? = some (.cells old t0 (0, 0)))
    (hi : (P.info? t).map (·.size) = some cells.size) (hs : old.size = cells.size) (h1 : cells.all (·.oneCell') = true)
    (h : wpList P ops Q rest (a.put o.dst undef) (W.setRow g cells)) : wpList P ops Q (o :: rest) a W :=
  wpList_plain hgd fun K hK => by
    unfold Oper.wp
    rw [exec_store ho hp hv hg hi hs h1]
    exact hK _ _ h
def law_FrameTells.T16 : Bool × List (List Nat × List Nat) := (true, [([], []), ([], []), ([], []), ([1, 2], [1, 2]), ([3], [3]), ([0, 4], [0, 4]), ([5], [5]), ([6], [6]), ([6], [6]), ([6], [6]), ([], []), ([10, 7, 5, 0, 1, 2, 3, 4, 5, 6, 7, 10], [7, 10]), ([8, 11, 0, 1, 2, 3, 4, 5, 6, 7, 8, 10, 11], [8]), ([9, 12, 0, 1, 2, 3, 4, 5, 6, 7, 8, 9, 10, 11, 12], [9])])
def law_FrameTells.B16 : List Nat := [0, 0, 0, 6, 14, 31, 63, 127, 127, 127, 0, 1279, 3583, 8191]
theorem law_FrameTells.tab16 : rtab .any (opsOf Try.f6 16) = law_FrameTells.T16 := by kernel_rfl
theorem law_FrameTells.bits16 : waitsOk law_FrameTells.T16.2 law_FrameTells.B16 = true := by kernel_rfl
set_option maxRecDepth 100000 in
set_option maxHeartbeats 8000000 in
theorem tells_law (k : Int) (l : List Int) (A : Option Addr) (c : Nat) (Ap : Option Addr) (cp : Nat) (L : List (List Int)) (w : World) (hr : Kd.C ku8 w A l.length l) (hc : l.length ≤ c) (hk : 0 ≤ k ∧ k ≤ 255) (hb : Bytes l) (hl : l.length ≤ 1048576) (hp : Kd.C kPs w Ap L.length L) (hpx : ∀ x ∈ L, Bytes x ∧ x.length ≤ 1048576) :
    Calls Try.prog 6 #[.agg #[.int .u8 k, .slice A l.length c], .slice Ap L.length cp] w fun e w' => e = .returned (.bool true) ∧ Below w.heap.size w w' := by
  have HA := Lib.hid (And.intro hr (And.intro hc (And.intro hk (And.intro hb hl))))
  have HP := Lib.hid (And.intro hp hpx)
  have hLn : L.length ≤ 9223372036854775807 := hp.2.1
  clear hr hc hk hb hl hp hpx
  go_enter Try.func6, Try.ntmps6
  go_upto_region 1 with (fail)
  generalize hWD : w.alloc (.cells _ 27) = W0
  obtain ⟨b2, hb2⟩ : ∃ b, b = w.heap.size := ⟨_, rfl⟩
  rw [← hb2]
  have HB0 := Lib.hid (show Below w.heap.size w W0 by rw [← hWD]; exact below_alloc (Below.refl _ _) _)
  have HF := Lib.hid (show ∀ W, Below W0.heap.size W0 W → W.cell? ⟨b2, 0, none⟩ = some (.int .u8 k) ∧ W.cell? ⟨b2, 1, none⟩ = some (.slice A l.length c) from fun W hW => by
    have h : W0.heap[b2]? = some (.cells #[.int .u8 k, .slice A l.length c] 27 (0, 0)) := by rw [← hWD, hb2]; exact blk_new _ _
    replace h := blk_below h hW
    exact ⟨(blk_cell h 0).trans rfl, (blk_cell h 1).trans rfl⟩)
  have f0 := (HF.out _ (Below.refl _ _)).1
  have f1 := (HF.out _ (Below.refl _ _)).2
  clear hWD hb2
  have HLe := Lib.hid (lentO_calls A c l W0 (Kd.C_below HA.out.1 HB0.out) (by have := HA.out.2.2.2.2; omega))
  go_wp2_with fail
  refine HLe.out.mono ?_
  rintro e w1 ⟨g5, cap5, rfl, hg5, hcap5, hLO, hb⟩
  have HLO := Lib.hid hLO
  have HB1 := Lib.hid hb
  replace HB0 := Lib.hid (below_then HB0.out HB0.out.size hb)
  clear f0 f1 hb hLO hg5 HLe
  have f0 := (HF.out _ HB1.out).1
  have f1 := (HF.out _ HB1.out).2
  have HPu := Lib.hid (put_calls k l (some ⟨g5, 0, none⟩) cap5 w1 HLO.out.lent.reads (by omega) HA.out.2.2.1 HA.out.2.2.2.1 (by have := HA.out.2.2.2.2; omega))
  go_wp2_with fail
  refine HPu.out.mono ?_
  rintro e w2 ⟨A6, c6, rfl, hR, hb⟩
  have HR6 := Lib.hid hR
  replace HB1 := Lib.hid (below_then HB1.out HB1.out.size hb)
  replace HB0 := Lib.hid (below_then HB0.out HB0.out.size hb)
  replace HLO := Lib.hid (HLO.out.step (hb.block g5 (Kd.R_lt HLO.out.own g5 (by simp [Value.ownBlock]))))
  clear f0 f1 hb hR HPu
  have f0 := (HF.out _ HB1.out).1
  have f1 := (HF.out _ HB1.out).2
  have HPr := Lib.hid (refPut_calls k l A c w2 (Kd.C_below HA.out.1 HB0.out) HA.out.2.1 HA.out.2.2.1 HA.out.2.2.2.1 (by have := HA.out.2.2.2.2; omega))
  go_wp2_with fail
  refine HPr.out.mono ?_
  rintro e w3 ⟨A8, c8, rfl, hR, hb⟩
  have HR8 := Lib.hid hR
  replace HR6 := Lib.hid (Kd.R_below HR6.out hb)
  replace HB1 := Lib.hid (below_then HB1.out HB1.out.size hb)
  replace HB0 := Lib.hid (below_then HB0.out HB0.out.size hb)
  replace HLO := Lib.hid (HLO.out.step (hb.block g5 (Kd.R_lt HLO.out.own g5 (by simp [Value.ownBlock]))))
  clear f0 f1 hb hR HPr
  have f0 := (HF.out _ HB1.out).1
  have f1 := (HF.out _ HB1.out).2
  have HSa := Lib.hid (Low.same_calls A6 c6 (putL k l) A8 c8 (putL k l) w3 (Kd.R_reads' HR6.out).2.2 (Kd.R_reads' HR8.out).2.2 (putL_bytes HA.out.2.2.2.1) (putL_bytes HA.out.2.2.2.1))
  rw [decide_eq_true (rfl : putL k l = putL k l)] at HSa
  have HKe := Lib.hid (fun W (hW : Drawn0 w3 W) => Low.kept_calls ⟨g5, 0, none⟩ cap5 A c l W (HLO.out.step (hW.below.block g5 (Kd.R_lt HLO.out.own g5 (by simp [Value.ownBlock])))).lent (Kd.C_below (Kd.C_below HA.out.1 HB0.out) hW.below) HA.out.2.2.2.1 (by have := HA.out.2.2.2.2; omega))
  generalize hpl : (putL k l).length = pn at HSa ⊢
  generalize hpe : putE l = pe
  have he1 : (pe == pe) = true := beq_self_eq_true _
  clear hpl hpe HR6 HR8
  go_wp2_with fail
  refine HSa.out.mono ?_
  rintro e w4 ⟨rfl, hd⟩
  have HK := Lib.hid (HKe.out _ hd)
  replace HB1 := Lib.hid (below_then HB1.out HB1.out.size hd.below)
  replace HB0 := Lib.hid (below_then HB0.out HB0.out.size hd.below)
  clear f0 f1 hd HSa HKe
  have f0 := (HF.out _ HB1.out).1
  have f1 := (HF.out _ HB1.out).2
  go_wp2_with fail
  refine HK.out.mono ?_
  rintro e w5 ⟨rfl, hd⟩
  replace HB0 := Lib.hid (below_then HB0.out HB0.out.size hd.below)
  clear f0 f1 hd HK HB1 HF HLO he1
  go_wp2_with fail
  refine (new_calls _).mono ?_
  rintro e w6 ⟨bx, hbe, rfl, hbx, hb⟩
  have hhi : w5.heap.size ≤ bx := by omega
  have HBx := Lib.hid hbx
  have HB6 := Lib.hid hb
  clear hbe hbx hb
  go_upto_region 8 with (fail)
  generalize hWD : w6.alloc (.cells _ 47) = W7
  obtain ⟨b11, hb11⟩ : ∃ b, b = w6.heap.size := ⟨_, rfl⟩
  rw [← hb11]
  have hbxl : bx < w6.heap.size := HBx.out.lt
  have HT : Hid (FT w w5 bx b11 false [] none 0 none 0 W7) := Lib.hid (by
    have hbw : Below w6.heap.size w6 W7 := by rw [← hWD]; exact below_alloc (Below.refl _ _) _
    refine ⟨⟨HBx.out.keep hbw, (fun h => by cases h), (fun k hk => by simp [Value.ownBlock] at hk), Kd.R_nil _ _ _ _ _, Kd.R_nil _ _ _ _ _, hhi⟩, below_then HB6.out HB6.out.size hbw, below_then (below_then HB0.out HB0.out.size HB6.out) (below_then HB0.out HB0.out.size HB6.out).size hbw, (by rw [← hWD, hb11]; exact blk_new _ _), ?_, Nat.le_refl _, (fun ad h => by cases h), ⟨by omega, by simp [Value.ownBlock]⟩, ?_, (fun x hx => by cases hx), by decide, (fun h => by cases h)⟩
    · exact (Kd.R_reads' (Kd.R_nil ku8 5 W7 0 (fun _ => True))).2.2
    · have := HB6.out.size
      omega)
  have HW25 := Lib.hid (And.intro HB0.out.size HB0.out)
  clear hWD hb11 hbxl hhi HBx HB6 HB0
  go_wp2
  go_loopw [12] (fun v12 wr => ∃ (i : Nat) (br : Bool) (left : List Int) (A3 : Option Addr) (c3 : Nat) (Al : Option Addr) (cl : Nat), i ≤ L.length ∧ i ≤ 40 ∧ v12 = .int .i64 i ∧ Hid (FT w w5 bx b11 br left A3 c3 Al cl wr)) (fun v12 _ => 40 - (intOf v12).toNat)
  case atStart => exact ⟨0, false, [], none, 0, none, 0, Nat.zero_le _, by omega, rfl, HT⟩
  case round =>
    clear HT
    obtain ⟨i, br, left, A3, c3, Al, cl, hi, hi40, rfl, H⟩ := hrel
    by_cases hlt : i < L.length ∧ i < 40
    · as_aux_lemma =>
      obtain ⟨ad, B, cx, rfl, hc0, hxc, hxC⟩ := piece_at HP.out.1 i hlt.1
      obtain ⟨x, hx⟩ : ∃ x, x = L[i]'hlt.1 := ⟨_, rfl⟩
      have hxm := HP.out.2 _ (List.getElem_mem hlt.1)
      rw [← hx] at hc0 hxc hxC hxm
      have HX : Hid (∀ W, Below w.heap.size w W → W.cell? (ad.add i) = some (.slice B x.length cx) ∧ Kd.C ku8 W B x.length x) := Lib.hid (fun W hW => ⟨(hW.cell (World.block_lt_of_cell? w _ hc0)).trans hc0, Kd.C_below hxC hW⟩)
      have HXm := Lib.hid (And.intro hxm hxc)
      clear hx hxm hxc hxC hc0
      have hc0 := (HX.out _ H.out.belw).1
      have p0 : 0 ≤ (i : Int) := by omega
      have p1 : (i : Int) < (L.length : Int) := by omega
      have p2 : (i : Int) < 40 := by omega
      have HLe := Lib.hid (lentO_calls B cx x wr (HX.out _ H.out.belw).2 (by have := HXm.out.1.2; omega))
      go_wp2_with fail
      refine HLe.out.mono ?_
      rintro e w1 ⟨g1, cap1, rfl, hg1, hcap1, hLO, hb⟩
      have HLO := Lib.hid hLO
      have HB1 := Lib.hid hb
      have H1 := Lib.hid (H.out.keep hb)
      have HG1 := Lib.hid (And.intro hg1 hcap1)
      clear hc0 hLO hb hg1 hcap1 HLe
      have HCo := Lib.hid (copyR_calls (l := left) H1.out.st.box (Kd.R_reads' H1.out.st.left).2.2 (Kd.R_reads' H1.out.st.left).2.1 (by have := H1.out.ll; omega))
      go_wp2_with fail
      refine HCo.out.mono ?_
      rintro e w3 ⟨b3, A5, c5, hb3, rfl, hx3, hR3, hb⟩
      have H3 := Lib.hid (H1.out.keep hb)
      have HB3 := Lib.hid hb
      have HX3 := Lib.hid (And.intro hx3 (And.intro hR3 hb3))
      have HLO3 := Lib.hid (HLO.out.keep hb)
      clear hb hx3 hR3 hb3 HCo
      have HFe := Lib.hid (feed_full H3.out.st H3.out.bel2 x (some ⟨g1, 0, none⟩) cap1 HLO3.out.lent.reads (by have := HG1.out.2; omega) H3.out.lb HXm.out.1.1 (by have := H3.out.ll; have := HXm.out.1.2; omega))
      go_wp2_with fail
      refine HFe.out.mono ?_
      rintro e w4 ⟨v15, A4, c4, he, hfr, hst, hels, hbel, hown⟩
      obtain ⟨E, hE⟩ : ∃ E : Int, E = (if (refS br left x).2.1 = true then 30 else 0) := ⟨_, rfl⟩
      rw [← hE] at he
      subst he
      have HE := Lib.hid hE
      clear hE
      have hgl := HLO.out.g
      have HBE := Lib.hid (below_low hbel HW25.out.1 HW25.out.2)
      have HLO4 : Hid (LentO w4 g1 cap1 x) := Lib.hid (HLO3.out.step (hels.2 g1 HLO3.out.g (by have := H.out.st.box.lt; have := HG1.out.1; omega) (fun he => by have := Kd.R_lt H.out.st.left g1 he.symm; have := HG1.out.1; omega)))
      have HF4 := Lib.hid (And.intro hfr (And.intro hst (And.intro hels (And.intro hbel hown))))
      clear hfr hst hels hbel hown HFe hgl
      have hc0 := (HX.out _ HBE.out).1
      have HKe := Lib.hid (Low.kept_calls ⟨g1, 0, none⟩ cap1 B cx x w4 HLO4.out.lent (HX.out _ HBE.out).2 HXm.out.1.1 (by have := HXm.out.1.2; omega))
      go_wp2_with fail
      refine HKe.out.mono ?_
      rintro e w5' ⟨rfl, hd⟩
      have HD := Lib.hid hd
      have HLO5 := Lib.hid (HLO4.out.keep hd.below)
      clear hc0 hd HKe
      obtain ⟨cells1, hrow1, hsz1⟩ := HLO5.out.row
      have HOv := Lib.hid (over_calls hrow1 hsz1 HG1.out.2 (by have := HXm.out.1.2; omega))
      clear hrow1 hsz1
      go_wp2_with fail
      refine HOv.out.mono ?_
      rintro e w6' ⟨rfl, hg⟩
      have H6 := Lib.hid (F6_mk H.out HB1.out HG1.out.1 HLO.out.g HB3.out HX3.out.1 HX3.out.2.1 HX3.out.2.2 HF4.out.2.1 HF4.out.2.2.1 HF4.out.2.2.2.1 HF4.out.1 HF4.out.2.2.2.2 HD.out hg HW25.out.1 HW25.out.2)
      clear hg HOv HLO5 HLO4 HLO3 HD HF4 HX3 HB3 HBE H3 HLO
      obtain ⟨⟨fs, br', left'⟩, hF⟩ : ∃ F, F = refS br left x := ⟨_, rfl⟩
      have HF := Lib.hid hF
      rw [← hF] at HE
      replace HE : Hid (E = (if br' = true then 30 else 0)) := HE
      clear hF
      have HRC := Lib.hid (fun W (hW : Below w6'.heap.size w6' W) => refC (Kd.C_below H6.out.rrd hW) H6.out.rcap (HX.out W (below_then H6.out.belw H6.out.belw.size hW)).2 HXm.out.2 H.out.lb HXm.out.1.1 (by have := H.out.ll; have := HXm.out.1.2; omega) HF.out HE.out)
      have HQ1 := Lib.hid (fun W (hW : Below w6'.heap.size w6' W) => rd_load (blk_below H6.out.rbox hW))
      have HQ2 := Lib.hid (fun W (hW : Below w6'.heap.size w6' W) => (HX.out W (below_then H6.out.belw H6.out.belw.size hW)).1)
      go_upto_region 16 with (fail)
      have HB7 := Lib.hid (below_drew1 (Below.refl w6'.heap.size w6'))
      refine start_ (n := 14) (S := fun w' => (Instr.loadAt 47 (.pointer (some ⟨b11, 0, none⟩))).run Try.prog w' = .ok (.agg #[.slice Al left.length cl, .bool br]) w' ∧ w'.cell? (ad.add i) = some (.slice B x.length cx)) (ds := []) #[false, false, false, false, false, false, false, false, false, false, false, false, false, false] (by kernel_rfl) rfl rfl ⟨HQ1.out _ HB7.out, HQ2.out _ HB7.out⟩ (fun hHeld => ?_)
      refine with_tabW law_FrameTells.tab16 law_FrameTells.bits16 (fun HT_ HW_ => ?_)
      refine pure_ (i := 1) (N := some 89) (v := ?_) (a' := ?_) #[false, true, false, false, false, false, false, false, false, false, false, false, false, false] rfl rfl (any_of HT_.out (by kernel_rfl)) (fun _ _ _ h => h) (Or.inl ⟨by rfl, ?_⟩) ?_ ?_
      rotate_left
      · intro w'
        go_simp
        with_reducible rfl
      rotate_left
      · simp only [Act.put, List.setIfInBounds_toArray, List.set_cons_zero, List.set_cons_succ, i64_w, i32_w]
        rfl
      refine pure_ (i := 2) (N := some 90) (v := ?_) (a' := ?_) #[false, true, true, false, false, false, false, false, false, false, false, false, false, false] rfl rfl (any_of HT_.out (by kernel_rfl)) (fun _ _ _ h => h) (Or.inl ⟨by rfl, ?_⟩) ?_ ?_
      rotate_left
      · intro w'
        go_simp
        with_reducible rfl
      rotate_left
      · simp only [Act.put, List.setIfInBounds_toArray, List.set_cons_zero, List.set_cons_succ, i64_w, i32_w]
        rfl
      refine pure_ (i := 3) (N := some 91) (v := ?_) (a' := ?_) #[false, true, true, true, false, false, false, false, false, false, false, false, false, false] rfl rfl (any_of HT_.out (by kernel_rfl)) (fun _ _ _ h => h) (Or.inl ⟨by rfl, ?_⟩) ?_ ?_
      rotate_left
      · intro w'
        go_simp
        with_reducible rfl
      rotate_left
      · simp only [Act.put, List.setIfInBounds_toArray, List.set_cons_zero, List.set_cons_succ, i64_w, i32_w]
        rfl
      refine take_ (i := 0) (N := some 88) (v := ?_) (a' := ?_) #[true, true, true, true, false, false, false, false, false, false, false, false, false, false] rfl rfl (take_ofW HT_.out HW_.out (by kernel_rfl)) (fun _ _ _ h => h) (Or.inl ⟨by rfl, ?_⟩) hHeld ?_ ?_
      rotate_left
      · rintro w' ⟨s0, s1⟩
        refine Eq.trans (exec_load (by rfl) (by rfl) s0) ?_
        with_reducible rfl
      rotate_left
      · simp only [Act.put, List.setIfInBounds_toArray, List.set_cons_zero, List.set_cons_succ, i64_w, i32_w]
        rfl
      refine take_ (i := 4) (N := some 92) (v := ?_) (a' := ?_) #[true, true, true, true, true, false, false, false, false, false, false, false, false, false] rfl rfl (take_ofW HT_.out HW_.out (by kernel_rfl)) (fun _ _ _ h => h) (Or.inl ⟨by rfl, ?_⟩) hHeld ?_ ?_
      rotate_left
      · rintro w' ⟨s0, s1⟩
        clear s0
        go_simp
        with_reducible rfl
      rotate_left
      · simp only [Act.put, List.setIfInBounds_toArray, List.set_cons_zero, List.set_cons_succ, i64_w, i32_w]
        rfl
      refine join_ (σ := Nat × Option Addr × Nat × Option Addr × Nat) 3 #[true, true, true, true, true, true, true, true, true, true, true, false, false, false] (fun s => [(93, .tuple #[.agg #[.slice s.2.1 left'.length s.2.2.1, .bool br'], .slice s.2.2.2.1 fs.length s.2.2.2.2, .int .i64 E]), (87, .tuple #[.agg #[.slice s.2.1 left'.length s.2.2.1, .bool br'], .slice s.2.2.2.1 fs.length s.2.2.2.2, .int .i64 E]), (94, .agg #[.slice s.2.1 left'.length s.2.2.1, .bool br']), (95, .slice s.2.2.2.1 fs.length s.2.2.2.2), (96, .int .i64 E), (18, .pointer (some ⟨s.1, 0, none⟩))]) (fun s w' => Below w6'.heap.size w6' w' ∧ w6'.heap.size ≤ s.1 ∧ w'.heap[s.1]? = some (.cells #[.slice none 0 0, .bool false] 47 (0, 0)) ∧ RF w6'.heap.size fs br' left' s.2.1 s.2.2.1 s.2.2.2.1 s.2.2.2.2 w') ?_ ?_
      rotate_left
      · intro hCont
        refine two_ (i := 5) (j := 10) (Ni := some 93) (Nj := some 18) #[true, true, true, true, true, true, false, false, false, false, false, false, false, false] #[true, true, true, true, true, false, false, false, false, false, true, false, false, false] rfl rfl rfl rfl (two_of HT_.out (by kernel_rfl)) (by decide) (by decide) (fun K hK => ?_) (fun K hK => ?_)
        · skip
          refine goes_ Try.func23 (by kernel_rfl) rfl #[.agg #[.slice Al left.length cl, .bool br], .slice B x.length cx] (by rfl) rfl rfl (by simp only [List.map_toArray, List.map_cons, List.map_nil]; rfl) ?_
          with_reducible refine (HRC.out _ HB7.out).mono ?_
          rintro e w8 ⟨A7, c7, Av, cv, rfl, hRF, hb⟩
          refine ⟨_, rfl, ?_⟩
          have HRF := Lib.hid (hRF.low HB7.out.size)
          replace HB7 := Lib.hid (below_then HB7.out HB7.out.size hb)
          clear hRF hb
          refine hK.out _ _ ⟨HQ1.out _ HB7.out, HQ2.out _ HB7.out⟩ (fun hHeld => ?_)
          clear hK K
          refine norm_ (a' := ?_) ?_ ?_
          rotate_left
          · show Act.put _ (some 93) _ = _
            simp only [Act.put, List.setIfInBounds_toArray, List.set_cons_zero, List.set_cons_succ, i64_w, i32_w]
            rfl
          refine pure_ (i := 6) (N := some 87) (v := ?_) (a' := ?_) #[true, true, true, true, true, true, true, false, false, false, false, false, false, false] rfl rfl (any_of HT_.out (by kernel_rfl)) (fun _ _ _ h => h) (Or.inl ⟨by rfl, ?_⟩) ?_ ?_
          rotate_left
          · intro w'
            go_simp
            with_reducible rfl
          rotate_left
          · simp only [Act.put, List.setIfInBounds_toArray, List.set_cons_zero, List.set_cons_succ, i64_w, i32_w]
            rfl
          refine pure_ (i := 7) (N := some 94) (v := ?_) (a' := ?_) #[true, true, true, true, true, true, true, true, false, false, false, false, false, false] rfl rfl (any_of HT_.out (by kernel_rfl)) (fun _ _ _ h => h) (Or.inl ⟨by rfl, ?_⟩) ?_ ?_
          rotate_left
          · intro w'
            go_simp
            with_reducible rfl
          rotate_left
          · simp only [Act.put, List.setIfInBounds_toArray, List.set_cons_zero, List.set_cons_succ, i64_w, i32_w]
            rfl
          refine pure_ (i := 8) (N := some 95) (v := ?_) (a' := ?_) #[true, true, true, true, true, true, true, true, true, false, false, false, false, false] rfl rfl (any_of HT_.out (by kernel_rfl)) (fun _ _ _ h => h) (Or.inl ⟨by rfl, ?_⟩) ?_ ?_
          rotate_left
          · intro w'
            go_simp
            with_reducible rfl
          rotate_left
          · simp only [Act.put, List.setIfInBounds_toArray, List.set_cons_zero, List.set_cons_succ, i64_w, i32_w]
            rfl
          refine pure_ (i := 9) (N := some 96) (v := ?_) (a' := ?_) #[true, true, true, true, true, true, true, true, true, true, false, false, false, false] rfl rfl (any_of HT_.out (by kernel_rfl)) (fun _ _ _ h => h) (Or.inl ⟨by rfl, ?_⟩) ?_ ?_
          rotate_left
          · intro w'
            go_simp
            with_reducible rfl
          rotate_left
          · simp only [Act.put, List.setIfInBounds_toArray, List.set_cons_zero, List.set_cons_succ, i64_w, i32_w]
            rfl
          refine one_ (i := 10) (N := some 18) #[true, true, true, true, true, true, true, true, true, true, true, false, false, false] rfl rfl (one_of HT_.out (by kernel_rfl)) (by decide) (fun K hK => ?_)
          refine value_ (w1 := ?_) (v := ?_) (by rfl) rfl ?_ ?_
          rotate_left 2
          · go_simp
            constructor
            · rfl
            · rfl
          have HZ := Lib.hid (blk_new w8 (.cells #[.slice none 0 0, .bool false] 47))
          have HG := Lib.hid HB7.out.size
          replace HRF := Lib.hid (HRF.out.keep (below_alloc (Below.refl _ _) (.cells #[.slice none 0 0, .bool false] 47)))
          replace HB7 := Lib.hid (below_then HB7.out HB7.out.size (below_alloc (Below.refl _ _) (.cells #[.slice none 0 0, .bool false] 47)))
          refine hK.out _ _ ⟨HQ1.out _ HB7.out, HQ2.out _ HB7.out⟩ (fun hHeld => ?_)
          clear hK K
          refine norm_ (a' := ?_) ?_ ?_
          rotate_left
          · show Act.put _ (some 18) _ = _
            simp only [Act.put, List.setIfInBounds_toArray, List.set_cons_zero, List.set_cons_succ, i64_w, i32_w]
            rfl
          exact norm_ (by simp only [putAll, Act.put, List.setIfInBounds_toArray, List.set_cons_zero, List.set_cons_succ]) (hCont (w8.heap.size, A7, c7, Av, cv) _ ⟨HB7.out, HG.out, HZ.out, HRF.out⟩)
        · skip
          refine value_ (w1 := ?_) (v := ?_) (by rfl) rfl ?_ ?_
          rotate_left 2
          · go_simp
            constructor
            · rfl
            · rfl
          have HZ := Lib.hid (show (w6'.alloc (.cells #[.slice none 0 0, .bool false] 47)).drew.heap[w6'.heap.size]? = some (.cells #[.slice none 0 0, .bool false] 47 (0, 0)) from blk_new w6' (.cells #[.slice none 0 0, .bool false] 47))
          have HG := Lib.hid (Nat.le_refl w6'.heap.size)
          replace HB7 := Lib.hid (show Below w6'.heap.size w6' (w6'.alloc (.cells #[.slice none 0 0, .bool false] 47)).drew from below_drew1 (below_alloc (Below.refl _ _) (.cells #[.slice none 0 0, .bool false] 47)))
          refine hK.out _ _ ⟨HQ1.out _ HB7.out, HQ2.out _ HB7.out⟩ (fun hHeld => ?_)
          clear hK K
          refine norm_ (a' := ?_) ?_ ?_
          rotate_left
          · show Act.put _ (some 18) _ = _
            simp only [Act.put, List.setIfInBounds_toArray, List.set_cons_zero, List.set_cons_succ, i64_w, i32_w]
            rfl
          refine one_ (i := 5) (N := some 93) #[true, true, true, true, true, true, false, false, false, false, true, false, false, false] rfl rfl (one_of HT_.out (by kernel_rfl)) (by decide) (fun K hK => ?_)
          refine goes_ Try.func23 (by kernel_rfl) rfl #[.agg #[.slice Al left.length cl, .bool br], .slice B x.length cx] (by rfl) rfl rfl (by simp only [List.map_toArray, List.map_cons, List.map_nil]; rfl) ?_
          with_reducible refine (HRC.out _ HB7.out).mono ?_
          rintro e w8 ⟨A7, c7, Av, cv, rfl, hRF, hb⟩
          refine ⟨_, rfl, ?_⟩
          replace HZ := Lib.hid (blk_below HZ.out hb)
          have HRF := Lib.hid (hRF.low HB7.out.size)
          replace HB7 := Lib.hid (below_then HB7.out HB7.out.size hb)
          clear hRF hb
          refine hK.out _ _ ⟨HQ1.out _ HB7.out, HQ2.out _ HB7.out⟩ (fun hHeld => ?_)
          clear hK K
          refine norm_ (a' := ?_) ?_ ?_
          rotate_left
          · show Act.put _ (some 93) _ = _
            simp only [Act.put, List.setIfInBounds_toArray, List.set_cons_zero, List.set_cons_succ, i64_w, i32_w]
            rfl
          refine pure_ (i := 6) (N := some 87) (v := ?_) (a' := ?_) #[true, true, true, true, true, true, true, false, false, false, true, false, false, false] rfl rfl (any_of HT_.out (by kernel_rfl)) (fun _ _ _ h => h) (Or.inl ⟨by rfl, ?_⟩) ?_ ?_
          rotate_left
          · intro w'
            go_simp
            with_reducible rfl
          rotate_left
          · simp only [Act.put, List.setIfInBounds_toArray, List.set_cons_zero, List.set_cons_succ, i64_w, i32_w]
            rfl
          refine pure_ (i := 7) (N := some 94) (v := ?_) (a' := ?_) #[true, true, true, true, true, true, true, true, false, false, true, false, false, false] rfl rfl (any_of HT_.out (by kernel_rfl)) (fun _ _ _ h => h) (Or.inl ⟨by rfl, ?_⟩) ?_ ?_
          rotate_left
          · intro w'
            go_simp
            with_reducible rfl
          rotate_left
          · simp only [Act.put, List.setIfInBounds_toArray, List.set_cons_zero, List.set_cons_succ, i64_w, i32_w]
            rfl
          refine pure_ (i := 8) (N := some 95) (v := ?_) (a' := ?_) #[true, true, true, true, true, true, true, true, true, false, true, false, false, false] rfl rfl (any_of HT_.out (by kernel_rfl)) (fun _ _ _ h => h) (Or.inl ⟨by rfl, ?_⟩) ?_ ?_
          rotate_left
          · intro w'
            go_simp
            with_reducible rfl
          rotate_left
          · simp only [Act.put, List.setIfInBounds_toArray, List.set_cons_zero, List.set_cons_succ, i64_w, i32_w]
            rfl
          refine pure_ (i := 9) (N := some 96) (v := ?_) (a' := ?_) #[true, true, true, true, true, true, true, true, true, true, true, false, false, false] rfl rfl (any_of HT_.out (by kernel_rfl)) (fun _ _ _ h => h) (Or.inl ⟨by rfl, ?_⟩) ?_ ?_
          rotate_left
          · intro w'
            go_simp
            with_reducible rfl
          rotate_left
          · simp only [Act.put, List.setIfInBounds_toArray, List.set_cons_zero, List.set_cons_succ, i64_w, i32_w]
            rfl
          exact norm_ (by simp only [putAll, Act.put, List.setIfInBounds_toArray, List.set_cons_zero, List.set_cons_succ]) (hCont (w6'.heap.size, A7, c7, Av, cv) _ ⟨HB7.out, HG.out, HZ.out, HRF.out⟩)
      rintro ⟨b18, A7, c7, Av, cv⟩ w7 ⟨hB7, hg7, hz7, hrf7⟩
      have hHeld := And.intro (HQ1.out _ hB7) (HQ2.out _ hB7)
      replace HB7 := Lib.hid hB7
      have HG := Lib.hid (show w6'.heap.size ≤ b18 from hg7)
      have HZ := Lib.hid (show w7.heap[b18]? = some (.cells #[.slice none 0 0, .bool false] 47 (0, 0)) from hz7)
      have HRF := Lib.hid (show RF w6'.heap.size fs br' left' A7 c7 Av cv w7 from hrf7)
      clear hB7 hg7 hz7 hrf7
      refine norm_ (a' := ?_) ?_ ?_
      rotate_left
      · simp only [putAll, Act.put, List.setIfInBounds_toArray, List.set_cons_zero, List.set_cons_succ]
        rfl
      refine one_ (i := 11) (N := none) #[true, true, true, true, true, true, true, true, true, true, true, true, false, false] rfl rfl (one_of HT_.out (by kernel_rfl)) (by decide) (fun K hK => ?_)
      refine skip_ (w1 := ?_) (by rfl) rfl ?_ ?_
      rotate_left
      · refine exec_store (t := 47) (p := .tmp 18) (v := .tmp 94) (g := b18) (cells := #[.slice A7 left'.length c7, .bool br']) ?_ ?_ ?_ HZ.out infoRd rfl (by simp [Value.oneCell'])
        all_goals rfl
      have HZ8 := Lib.hid (show (World.setRow w7 b18 #[.slice A7 left'.length c7, .bool br']).heap[b18]? = some (.cells #[.slice A7 left'.length c7, .bool br'] 47 (0, 0)) from setRow_heap _ _ _ #[.slice A7 left'.length c7, .bool br'] _ _ HZ.out)
      have HB8 := Lib.hid (below_setRow HB7.out HG.out #[.slice A7 left'.length c7, .bool br'])
      have HRF8 := Lib.hid (HRF.out.set HZ.out (C_not HRF.out.l (fun n h => by cases h) HZ.out) #[.slice A7 left'.length c7, .bool br'])
      refine hK.out _ _ ⟨HQ1.out _ HB8.out, HQ2.out _ HB8.out⟩ (fun hHeld => ?_)
      clear hK K
      refine pure_ (i := 12) (N := some 19) (v := ?_) (a' := ?_) #[true, true, true, true, true, true, true, true, true, true, true, true, true, false] rfl rfl (any_of HT_.out (by kernel_rfl)) (fun _ _ _ h => h) (Or.inl ⟨by rfl, ?_⟩) ?_ ?_
      rotate_left
      · intro w'
        go_simp
        with_reducible rfl
      rotate_left
      · simp only [Act.put, List.setIfInBounds_toArray, List.set_cons_zero, List.set_cons_succ, i64_w, i32_w]
        rfl
      refine pure_ (i := 13) (N := some 20) (v := ?_) (a' := ?_) #[true, true, true, true, true, true, true, true, true, true, true, true, true, true] rfl rfl (any_of HT_.out (by kernel_rfl)) (fun _ _ _ h => h) (Or.inl ⟨by rfl, ?_⟩) ?_ ?_
      rotate_left
      · intro w'
        go_simp
        with_reducible rfl
      rotate_left
      · simp only [Act.put, List.setIfInBounds_toArray, List.set_cons_zero, List.set_cons_succ, i64_w, i32_w]
        rfl
      refine done_ (done_of HT_.out (by kernel_rfl)) ?_
      
      generalize hW8 : World.setRow w7 b18 #[.slice A7 left'.length c7, .bool br'] = w8 at HZ8 HB8 HRF8 ⊢
      have F8 := Lib.hid (H6.out.keep HB8.out)
      have hrs := refS_facts HF.out H.out.lb HXm.out.1.1 (by have := H.out.ll; have := HXm.out.1.2; omega) H.out.ll H.out.brl
      have HRS := Lib.hid hrs
      clear hrs hW8 HB7 HG1 HB1 H1 HZ HRF
      obtain ⟨A15, c15, hv15⟩ := Kd.R_slice F8.out.fr
      rw [← HF.out] at hv15
      obtain rfl : v15 = .slice A15 fs.length c15 := hv15
      have HSF : Hid (∀ n, Calls Try.prog 15 #[.slice A15 fs.length c15, .slice Av fs.length cv] (w8.drewN n) fun e w' => e = .returned (.bool true) ∧ ∃ m, w' = (w8.drewN n).drewN m) := Lib.hid (fun n => by
        have h := F8.out.fr
        rw [← HF.out] at h
        have h1 : Kd.R k27 27 w8 0 (fun _ => True) (.slice A15 fs.length c15) fs := h
        exact (same_frames fs A15 c15 Av cv _ HRS.out.1 (Kd.C_drewN (Kd.R_reads' h1).2.2 n) (Kd.R_reads' h1).2.1 (Kd.C_drewN (Kd.R_reads' HRF8.out.f).2.2 n) (Kd.R_reads' HRF8.out.f).2.1).mono (fun _ _ ⟨h1, h2⟩ => ⟨h1, h2.out⟩))
      have HLx : Hid (∀ n, Calls Try.prog 11 #[.pointer (some ⟨b3, 0, none⟩)] (w8.drewN n) fun e w' => e = .returned (.int .i64 left.length) ∧ w' = w8.drewN n) := Lib.hid (fun n => (left_calls (F8.out.xbox.keep (pw_below_drewN (Below.refl w8.heap.size w8) n)) (by have := H.out.ll; omega)).mono (fun _ _ ⟨h1, h2⟩ => ⟨h1, h2.symm⟩))
      have HLr : Hid (∀ n, Calls Try.prog 11 #[.pointer (some ⟨bx, 0, none⟩)] (w8.drewN n) fun e w' => e = .returned (.int .i64 left'.length) ∧ w' = w8.drewN n) := Lib.hid (fun n => by
        have h := F8.out.st.box
        rw [← HF.out] at h
        exact (left_calls (RB.keep h (pw_below_drewN (Below.refl w8.heap.size w8) n)) (by have := HRS.out.2.2.1; show left'.length ≤ _; omega)).mono (fun _ _ ⟨h1, h2⟩ => ⟨h1, h2.symm⟩))
      have c18 : w8.cell? ⟨b18, 0, none⟩ = some (.slice A7 left'.length c7) := (blk_cell HZ8.out 0).trans rfl
      have c11 : w8.cell? ⟨b11, 0, none⟩ = some (.slice Al left.length cl) := (blk_cell F8.out.rbox 0).trans rfl
      have he1 : (E == E) = true := beq_self_eq_true _
      have he2 : ((left.length : Int) == (left.length : Int)) = true := beq_self_eq_true _
      have he3 : ((left'.length : Int) == (left'.length : Int)) = true := beq_self_eq_true _
      have hl1 : left.length ≤ 9223372036854775807 := by have := H.out.ll; omega
      have hl2 : left'.length ≤ 9223372036854775807 := by have := HRS.out.2.2.1; omega
      go_upto_region 17 with (fail)
      go_quiet ((first | (go_at_call 15; exact Calls.quiet_of (HSF.out _)) | (go_at_call 11; first | exact Calls.quiet_of_same (HLx.out _) | exact Calls.quiet_of_same (HLr.out _))))
      have HB9 := Lib.hid (pw_below_drewN (Below.refl w8.heap.size w8) nq)
      generalize w8.drewN nq = w9 at HB9 ⊢
      have F9 := Lib.hid (F8.out.keep HB9.out)
      have HZ9 := Lib.hid (blk_below HZ8.out HB9.out)
      have HRF9 := Lib.hid (HRF8.out.keep HB9.out)
      clear HB9 HZ8 HRF8 F8 HSF HLx HLr c18 c11 he2 he3 hl1 hl2 HQ1 HQ2 HRC HB8
      have hc0 := (HX.out _ F9.out.belw).1
      have HFx := Lib.hid (feed_x F9.out.xbox F9.out.xown (fun k hk => hk.2) F9.out.xhi H.out.brl x B cx (HX.out _ F9.out.belw).2 HXm.out.2 H.out.lb HXm.out.1.1 (by have := H.out.ll; have := HXm.out.1.2; omega))
      go_wp2_with fail
      refine HFx.out.mono ?_
      rintro e w10 ⟨v21, he, hR, hbel, hels⟩
      rw [← HF.out] at he hR
      replace he : e = .returned (.tuple #[v21, .int .i64 (if br' = true then 30 else 0)]) := he
      replace hR : Kd.R k27 27 w10 w9.heap.size (fun _ => True) v21 fs := hR
      rw [← HE.out] at he
      obtain ⟨A21, c21, rfl⟩ := Kd.R_slice hR
      subst he
      have H10 := Lib.hid (F10_mk H6.out F9.out HF.out HG.out HZ9.out HRF9.out HRS.out.2.2.2 hbel hels HW25.out.1)
      have HSF := Lib.hid (same_frames fs A21 c21 Av cv w10 HRS.out.1 (Kd.R_reads' hR).2.2 (Kd.R_reads' hR).2.1 (Kd.R_reads' H10.out.rf.f).2.2 (Kd.R_reads' H10.out.rf.f).2.1)
      clear hR hbel hels HFx hc0 HZ9 HRF9 HG F9
      go_wp2_with fail
      refine HSF.out.mono ?_
      rintro e w11 ⟨rfl, hd⟩
      have H11 := Lib.hid (H10.out.keep hd.below)
      clear hd HSF H10
      obtain ⟨old, hold, hbox⟩ := H11.out.rbox
      have HO := Lib.hid (And.intro hold hbox)
      clear hold hbox he1
      have v1 : IntKind.i64.wrap ((i : Int) + 1) = (i : Int) + 1 := by rw [IntKind.wrap_i64]; omega
      go_wp2_with (first | (refine wl_load 47 (.tmp 18) rfl rfl _ _ rfl (rd_load H11.out.box18) ?_) | (refine wl_store 47 (.tmp 11) (.tmp 144) rfl rfl rfl rfl HO.out.2 infoRd HO.out.1 (by simp [Value.oneCell']) ?_))
      go_roundw
      case rel => exact ⟨i + 1, br', left', A4, c4, A7, c7, by omega, by omega, rfl, Lib.hid (FT_mk H11.out H.out.hi HW25.out.1 HRS.out.2.1 HRS.out.2.2.1 HRS.out.2.2.2)⟩
      case measure => simp [intOf]; omega
    · as_aux_lemma =>
      have p0 : 0 ≤ (i : Int) := by omega
      by_cases hz : (i : Int) < (L.length : Int)
      · have hz40 : ¬ (i : Int) < 40 := by omega
        go_wp2_with fail
        refine (awake_calls _).mono ?_
        rintro e w8 ⟨rfl, hb⟩
        have HBE := Lib.hid (below_then H.out.belw H.out.belw.size hb)
        clear hb
        go_wp2
        go_ret
        exact ⟨rfl, HBE.out⟩
      · go_wp2_with fail
        refine (awake_calls _).mono ?_
        rintro e w8 ⟨rfl, hb⟩
        have HBE := Lib.hid (below_then H.out.belw H.out.belw.size hb)
        clear hb
        go_wp2
        go_ret
        exact ⟨rfl, HBE.out⟩
end Go.Proofs.Ytajlmjmhkhdmdaa.PF
