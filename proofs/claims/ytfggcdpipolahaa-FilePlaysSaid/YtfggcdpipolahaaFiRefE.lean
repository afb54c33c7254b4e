/- The document's disk beside the program's: one more unsynced operation; Sync; Crash. -/
import Derived.Test.YtfggcdpipolahaaFiRefD
set_option linter.unusedVariables false
set_option linter.unusedSimpArgs false
namespace Go.Proofs.Ytfggcdpipolahaa.PF
open Go.RowKit Go.Proofs.YtfggcdpipolahaaW.PrintWords Go.Proofs.YtfggcdpipolahaaW.PrintLast Go.Proofs.YtfggcdpipolahaaW.PrintMore
attribute [local go_sem] max2_int min2_int max_two min_two
theorem infoRopZ : (Try.prog.info? 99).map (fun i => (i.zero, i.size, i.bytes)) = some (some (.agg #[.int .i64 0, .bool false, .int .i64 0, .slice none 0 0]), 4, 48) := by kernel_rfl
theorem rop_ld {w : World} {g : Nat} {cs : Array Value} (h : w.heap[g]? = some (.cells cs 99 (0, 0))) (hc : cs.size = 4) : (Instr.loadAt 99 (.pointer (some ⟨g, 0, none⟩))).run Try.prog w = .ok (.agg cs) w := by
  have hld := run_loadVar_row (P := Try.prog) w g 99 99 cs (0, 0) _ h Try.underlying99 rfl (by rw [hc]; exact infoRop)
  simp only [Instr.loadAt, Instr.sureAddr, Sem.run_bind, Sem.run_pure, Result.andThen_ok, hld]
def PostD (j : Nat) (w : World) (ok : Nat → Prop) (p : ADk × Int) (e : Ending) (w' : World) : Prop := ∃ r' : RD, e = .returned (.tuple #[.agg r'.cells, .int .i64 p.2]) ∧ DR j (fun k => ok k ∨ w.heap.size ≤ k) w' r' p.1 ∧ Below w.heap.size w w'
theorem PostD.back {j : Nat} {w w1 w' : World} {ok : Nat → Prop} {p : ADk × Int} {e : Ending} (hb : Below w.heap.size w w1) (h : PostD j w1 (fun k => ok k ∨ w.heap.size ≤ k) p e w') : PostD j w ok p e w' := by
  obtain ⟨r', he, hd, hb'⟩ := h
  exact ⟨r', he, hd.mono (fun k hk => hk.elim id (fun h => .inr (Nat.le_trans hb.size h))), below_then hb hb.size hb'⟩
theorem R_newOps {w w' w5 : World} {ok : Nat → Prop} {B : Nat} {v : Value} {x : List Rop} (h : Kd.R kOp 99 w' B (fun _ => True) v x) (hB : w.heap.size ≤ B) (hm : ∀ k, B ≤ k → k < w'.heap.size → w5.heap[k]? = w'.heap[k]?) : Kd.R kOp 99 w5 0 (fun k => ok k ∨ w.heap.size ≤ k) v x :=
  Kd.R_mono (Kd.R_step (Kd.R_lower (Kd.R_mono (Kd.R_bound h) (ok' := fun k => B ≤ k) (fun k hk => hk.2.1)) (Nat.zero_le _)) hm) (fun k hk => .inr (Nat.le_trans hB hk))
set_option maxRecDepth 100000 in
set_option maxHeartbeats 8000000 in
theorem withR_calls {j n : Nat} {ok : Nat → Prop} {w : World} {r : RD} {a : ADk} (h : DR j ok w r a) (hj : j ≤ 1000) (hg : Good n a) (hn : n ≤ 1099511627776) (o : AOp) (D : Sl) (hD : By ok w D o.data) :
    Calls Try.prog 56 #[.agg r.cells, .agg #[.int .i64 o.f, .bool o.cut, .int .i64 o.n, .slice D.1 D.2.1 D.2.2]] w (PostD (j + 1) w ok (a.does o)) := by
  obtain ⟨rs, hm⟩ := h.mem
  have hgo := h.go hj
  have HOp := Lib.hid (fun W => op_calls r (h.nums hj) W)
  have HN := Lib.hid (show r.ops.2.1 = rs.length ∧ rs.length ≤ 1099511627776 from ⟨(Kd.R_reads' hm.ops).1, by have := hm.rel.len; have := hg.ops; omega⟩)
  have HM := Lib.hid hm
  have HDd := Lib.hid hD
  have HGo := Lib.hid hgo
  clear h hm hg hn hD hgo
  go_enter Try.func56, Try.ntmps56
  go_upto_region 1 with (fail)
  have HD := Lib.hid (blk_alloc (blk_alloc (blk_new w (.cells r.cells 53)) (.cells #[.int .i64 o.f, .bool o.cut, .int .i64 o.n, .slice D.1 D.2.1 D.2.2] 99)) RZ)
  have HO : Hid ((((w.alloc (.cells r.cells 53)).alloc (.cells #[.int .i64 o.f, .bool o.cut, .int .i64 o.n, .slice D.1 D.2.1 D.2.2] 99)).alloc RZ).heap[w.heap.size + 1]? = some (.cells #[.int .i64 o.f, .bool o.cut, .int .i64 o.n, .slice D.1 D.2.1 D.2.2] 99 (0, 0))) := Lib.hid (by rw [← World.size_alloc w (.cells r.cells 53)]; exact blk_alloc (blk_new _ _) _)
  have HZ : Hid ((((w.alloc (.cells r.cells 53)).alloc (.cells #[.int .i64 o.f, .bool o.cut, .int .i64 o.n, .slice D.1 D.2.1 D.2.2] 99)).alloc RZ).heap[w.heap.size + 1 + 1]? = some (.cells rz 53 (0, 0))) := Lib.hid (by
    have e : ∀ x y : Obj, ((w.alloc x).alloc y).heap.size = w.heap.size + 1 + 1 := fun x y => by simp only [World.size_alloc]
    rw [← e]
    exact blk_new _ _)
  have HB := Lib.hid (below_alloc (below_alloc (below_alloc (Below.refl w.heap.size w) (.cells r.cells 53)) (.cells #[.int .i64 o.f, .bool o.cut, .int .i64 o.n, .slice D.1 D.2.1 D.2.2] 99)) RZ)
  unfold RZ rz at HD HO HZ HB
  generalize ((w.alloc (.cells r.cells 53)).alloc (.cells #[.int .i64 o.f, .bool o.cut, .int .i64 o.n, .slice D.1 D.2.1 D.2.2] 99)).alloc _ = W at HD HO HZ HB ⊢
  obtain ⟨g, hg⟩ : ∃ g, g = w.heap.size := ⟨_, rfl⟩
  rw [← hg] at HD HO HZ ⊢
  have HG := Lib.hid hg
  clear hg
  go_wp2_with (first | (refine wl_load 53 (.tmp 2) rfl rfl _ _ rfl (rd_ld HD.out) ?_) | fail)
  refine (HOp.out _).mono ?_
  rintro e w1 ⟨rfl, hb1⟩
  have HD1 := Lib.hid (blk_below HD.out hb1)
  have HO1 := Lib.hid (blk_below HO.out hb1)
  have HZ1 := Lib.hid (blk_below HZ.out hb1)
  have HB1 := Lib.hid (below_then HB.out HB.out.size hb1)
  clear hb1 HD HO HZ HOp
  obtain ⟨q, hq⟩ : ∃ q, q = r.go.1 := ⟨_, rfl⟩
  obtain ⟨z, hz⟩ : ∃ z, z = r.go.2 := ⟨_, rfl⟩
  rw [← hq, ← hz]
  have HQ := Lib.hid (And.intro hq hz)
  clear hq hz
  by_cases h0 : a.stop.2 = 0
  case neg =>
    have HE := Lib.hid (show a.does o = a.stop by unfold ADk.does; rw [if_neg h0])
    have hne : (z != 0) = true := by rw [HQ.out.2, HGo.out.1]; simp [h0]
    clear h0
    go_upto_region 3 with (first | (refine wl_store (old := rz) (cells := q.cells) 53 (.tmp 6) (.tmp 12) rfl rfl rfl rfl (blk_new w1 RZ) infoRd rfl (by simp [Value.oneCell', RD.cells]) ?_) | fail)
    have HT := Lib.hid (setRow_heap (w1.alloc RZ) w1.heap.size rz q.cells _ _ (blk_new w1 RZ))
    have HZ2 := Lib.hid ((setRow_other (w1.alloc RZ) w1.heap.size (g + 1 + 1) q.cells (by have := blk_lt HZ1.out; omega)).trans (blk_alloc HZ1.out RZ))
    have HB2 := Lib.hid (below_setRow (below_alloc HB1.out RZ) HB1.out.size q.cells)
    unfold RZ rz at HT HZ2 HB2
    generalize (w1.alloc _).setRow w1.heap.size q.cells = W2 at HT HZ2 HB2 ⊢
    go_wp2_with (first | (refine wl_load 53 (.tmp 6) rfl rfl _ _ rfl (rd_ld HT.out) ?_) | (refine wl_store (old := rz) (cells := q.cells) 53 (.tmp 4) (.tmp 16) rfl rfl rfl rfl HZ2.out infoRd rfl (by simp [Value.oneCell', RD.cells]) ?_) | fail)
    refine bodyPost_ret (results_ct rfl _ _ (g + 1 + 1) 53 q.cells (0, 0) _ rfl (setRow_heap _ _ _ _ _ _ HZ2.out) Try.underlying53 rfl infoRd) rfl ?_
    rw [HE.out, HQ.out.1, HQ.out.2, HGo.out.1]
    have hbf := below_setRow HB2.out (show w.heap.size ≤ g + 1 + 1 by have := HG.out; omega) q.cells
    rw [HQ.out.1] at hbf
    exact ⟨_, rfl, (HGo.out.2.below hbf).mono (fun _ => .inl), hbf⟩
  have HE := Lib.hid (show a.does o = ({ a.stop.1 with ops := a.ops ++ [o], now := a.now.done o o.data.length }, 0) by unfold ADk.does; rw [if_pos h0])
  have hne : (z != 0) = false := by rw [HQ.out.2, HGo.out.1]; simp [h0]
  clear h0
  go_upto_region 4 with (first | (refine wl_store (old := rz) (cells := q.cells) 53 (.tmp 6) (.tmp 12) rfl rfl rfl rfl (blk_new w1 RZ) infoRd rfl (by simp [Value.oneCell', RD.cells]) ?_) | fail)
  have HT := Lib.hid (setRow_heap (w1.alloc RZ) w1.heap.size rz q.cells _ _ (blk_new w1 RZ))
  have HZ2 := Lib.hid ((setRow_other (w1.alloc RZ) w1.heap.size (g + 1 + 1) q.cells (by have := blk_lt HZ1.out; omega)).trans (blk_alloc HZ1.out RZ))
  have HO2 := Lib.hid ((setRow_other (w1.alloc RZ) w1.heap.size (g + 1) q.cells (by have := blk_lt HO1.out; omega)).trans (blk_alloc HO1.out RZ))
  have HD2 := Lib.hid ((setRow_other (w1.alloc RZ) w1.heap.size g q.cells (by have := blk_lt HD1.out; omega)).trans (blk_alloc HD1.out RZ))
  have HB2 := Lib.hid (below_setRow (below_alloc HB1.out RZ) HB1.out.size q.cells)
  have HG6 := Lib.hid (show w.heap.size ≤ w1.heap.size ∧ g + 1 + 1 ≠ w1.heap.size from ⟨HB1.out.size, by have := blk_lt HZ1.out; omega⟩)
  unfold RZ rz at HT HZ2 HO2 HD2 HB2
  generalize (w1.alloc _).setRow w1.heap.size q.cells = W2 at HT HZ2 HO2 HD2 HB2 ⊢
  obtain ⟨g6, hg6⟩ : ∃ x, x = w1.heap.size := ⟨_, rfl⟩
  rw [← hg6] at HT HG6 ⊢
  clear hg6 HD1 HO1 HZ1 HB1
  have HC := Lib.hid (show Kd.C kOp W2 r.ops.1 r.ops.2.1 rs by rw [HN.out.1]; exact (Kd.R_reads' (HM.out.below HB2.out).ops).2.2)
  have c3 : W2.cell? ⟨g, 3, none⟩ = some (.slice r.ops.1 r.ops.2.1 r.ops.2.2) := (blk_cell HD2.out 3).trans rfl
  go_upto_region 6 with ((with_reducible refine gate_builtin (b := .append) (xs := #[.tmp 18, .tmp 20]) rfl ?_); at_builtin; refine Kd.R_append_rows kOp (w0 := W2) W2.heap.size rfl (.tmp 18) (.tmp 20) 51 99 (.agg #[.int .i64 0, .bool false, .int .i64 0, .slice none 0 0]) 48 rfl Try.underlying51 infoRopZ rfl (by decide) (by decide) (.slice none 0 0) ([] : List Rop) rs r.ops.1 r.ops.2.1 r.ops.2.2 (fun _ => True) (fun _ => False) rfl rfl (Kd.R_nil _ _ _ _ (fun _ => True)) HC.out (fun _ _ h => h) (fun _ h => h.elim) (fun _ _ => trivial) (Below.refl _ _) (Nat.le_refl _) (by have := HN.out; simp; omega) ?_; intro v3 w3 ho hb _ _; rw [List.nil_append] at ho; have HR3 := Lib.hid ho; have HB3 := Lib.hid hb; clear ho hb c3)
  have HO3 := Lib.hid (blk_below HO2.out HB3.out)
  go_upto_region 7 with (first | (refine wl_load 99 (.tmp 3) rfl rfl _ _ rfl (rop_ld HO3.out rfl) ?_) | ((with_reducible refine gate_builtin (b := .append) (xs := #[.tmp 22, .tmp 24]) rfl ?_); at_builtin; refine Kd.R_append kOp (w0 := W2) W2.heap.size rfl (.tmp 22) (.tmp 24) 51 99 (.agg #[.int .i64 0, .bool false, .int .i64 0, .slice none 0 0]) 48 rfl Try.underlying51 infoRopZ rfl (by decide) (by decide) v3 rs (((o.f : Int), o.cut, (o.n : Int), D) : Rop) [.int .i64 o.f, .bool o.cut, .int .i64 o.n, .slice D.1 D.2.1 D.2.2] (fun _ => True) (fun _ => False) rfl rfl ⟨_, _, rfl, rfl, _, _, rfl, rfl, _, _, rfl, rfl, rfl⟩ (fun _ hk => hk.elim) (fun _ _ => trivial) HR3.out HB3.out HB3.out.size (by have := HN.out; omega) ?_; intro v4 w4 ho hb _ _; obtain ⟨A4, c4, hv⟩ := Kd.R_slice ho; obtain ⟨n4, hn4⟩ : ∃ x, x = (rs ++ [(((o.f : Int), o.cut, (o.n : Int), D) : Rop)]).length := ⟨_, rfl⟩; rw [← hn4] at hv; subst hv; have HR4 := Lib.hid ho; have HB4 := Lib.hid hb; have HT4 := Lib.hid (blk_below HT.out hb); have c63 : w4.cell? ⟨g6, 3, none⟩ = some (.slice q.ops.1 q.ops.2.1 q.ops.2.2) := (blk_cell HT4.out 3).trans rfl; have z63 : w4.frozen? ⟨g6, 3, none⟩ = false := blk_frozen HT4.out 3; clear ho hb hn4) | fail)
  have HT5 : Hid ((w4.setCell ⟨g6, 3, none⟩ (.slice A4 n4 c4)).heap[g6]? = some (.cells ({ q with ops := (A4, n4, c4) } : RD).cells 53 (0, 0))) := Lib.hid (blk_set HT4.out 3 (.slice A4 n4 c4))
  have HZ5 : Hid ((w4.setCell ⟨g6, 3, none⟩ (.slice A4 n4 c4)).heap[g + 1 + 1]? = some (.cells #[.slice none 0 0, .slice none 0 0, .slice none 0 0, .slice none 0 0, .bool false, .int .i64 0, .int .i64 0, .int .i64 0] 53 (0, 0))) := Lib.hid (blk_far (blk_below HZ2.out HB4.out) HG6.out.2 _)
  have HB5 := Lib.hid ((below_then HB2.out HB2.out.size HB4.out).setCell (p := ⟨g6, 3, none⟩) HG6.out.1 (.slice A4 n4 c4))
  have HR5 := Lib.hid (show ∀ k, W2.heap.size ≤ k → k < w4.heap.size → (w4.setCell ⟨g6, 3, none⟩ (.slice A4 n4 c4)).heap[k]? = w4.heap[k]? from fun k hk hl => (grown_set (b := g6) 3 (.slice A4 n4 c4)).block k hl (by have := blk_lt HT.out; intro e; injection e with e; omega))
  generalize w4.setCell ⟨g6, 3, none⟩ (.slice A4 n4 c4) = W5 at HT5 HZ5 HB5 HR5 ⊢
  clear c63 z63
  go_wp2_with (first | (refine wl_load 53 (.tmp 6) rfl rfl _ _ rfl (rd_ld HT5.out) ?_) | (refine wl_store (old := rz) (cells := ({ q with ops := (A4, n4, c4) } : RD).cells) 53 (.tmp 4) (.tmp 27) rfl rfl rfl rfl HZ5.out infoRd rfl (by simp [Value.oneCell', RD.cells]) ?_) | fail)
  refine bodyPost_ret (results_ct rfl _ _ (g + 1 + 1) 53 ({ q with ops := (A4, n4, c4) } : RD).cells (0, 0) _ rfl (setRow_heap _ _ _ _ _ _ HZ5.out) Try.underlying53 rfl infoRd) rfl ?_
  have hbf := below_setRow HB5.out (show w.heap.size ≤ g + 1 + 1 by have := HG.out; omega) ({ q with ops := (A4, n4, c4) } : RD).cells
  have hq := HQ.out.1
  have hd := HGo.out.2
  rw [← hq] at hd
  have hs := stop_now a
  have hf : q.f = r.f := by rw [hq]; exact (go_same r).1
  rw [HE.out]
  refine ⟨_, rfl, ⟨⟨rs ++ [(((o.f : Int), o.cut, (o.n : Int), D) : Rop)], ?_, ?_, ?_⟩, hd.down, hd.arm, hd.fail, hd.wth⟩, hbf⟩
  · have hm1 : By3 ok w q.f a.stop.1.safe := by rw [hf, hs.2.1]; exact HM.out.f
    exact hm1.map (fun _ _ k => (k.below hbf).mono (fun _ h => .inl h))
  · refine R_newOps HR4.out HB2.out.size (fun k hk hl => ?_)
    refine (setRow_other _ _ _ _ ?_).trans (HR5.out k hk hl)
    have := blk_lt HZ2.out
    omega
  · exact (Rel.snoc ⟨rfl, rfl, rfl, HDd.out.below hbf⟩ (HM.out.below hbf).rel).map (fun _ _ k => k.mono (fun _ h => .inl h))
theorem rops_box {ok : Nat → Prop} {w w1 : World} {v : Value} {rs : List Rop} (h : Kd.R kOp 99 w 0 ok v rs) {g t : Nat} {cells : Array Value} (hb : w.heap[g]? = some (.cells cells t (0, 0))) (ht : 99 ≠ t) (hg : w.grownBy w1 (some g)) : Kd.R kOp 99 w1 0 ok v rs :=
  Kd.R_mono (Kd.R_step (Kd.R_types h hb (by intro q hq; simp [Kd.pair, Kd.int, Kd.bool, Kd.scalar] at hq; rw [hq]; exact ht)) (fun k hk hl => hg.block k hl (by rintro ⟨rfl⟩; exact hk.2 rfl))) (fun _ hk => hk.1)
theorem DR.box {j : Nat} {ok : Nat → Prop} {w w1 : World} {r : RD} {a : ADk} (h : DR j ok w r a) {g t : Nat} {cells : Array Value} (hb : w.heap[g]? = some (.cells cells t (0, 0))) (h8 : 5 ≠ t) (ho : 99 ≠ t) (hg : w.grownBy w1 (some g)) : DR j ok w1 r a :=
  ⟨h.mem.elim fun rs m => ⟨rs, m.f.map (fun _ _ k => k.box hb h8 hg), rops_box m.ops hb ho hg, m.rel.map (fun _ _ k => k.box hb h8 hg)⟩, h.down, h.arm, h.fail, h.wth⟩
theorem grown_row {w : World} (g : Nat) (cs : Array Value) (hg : g < w.heap.size) : w.grownBy (w.setRow g cs) (some g) := ⟨rfl, rfl, rfl, by simp, fun k _ hne => setRow_other _ _ _ _ (fun e => hne (by rw [e]))⟩
end Go.Proofs.Ytfggcdpipolahaa.PF
