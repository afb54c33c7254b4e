/- One call of FilePlays upon the program's disk and the document's. -/
import Derived.Test.YtfggcdpipolahaaFiRefH
import Derived.Test.YtfggcdpipolahaaFiLend
set_option linter.unusedVariables false
set_option linter.unusedSimpArgs false
namespace Go.Proofs.Ytfggcdpipolahaa.PF
open Go.RowKit Go.Proofs.YtfggcdpipolahaaW.PrintWords Go.Proofs.YtfggcdpipolahaaW.PrintLast Go.Proofs.YtfggcdpipolahaaW.PrintMore
attribute [local go_sem] max2_int min2_int max_two min_two
def Did (w0 w : World) (F : Nat → Option ADk) (b n : Nat) (e : Ending) (w' : World) : Prop := ∃ (r' : RD) (a' : ADk) (F' : Nat → Option ADk), e = .returned (.tuple #[.agg r'.cells, .bool true]) ∧ Disks w0 w' (fun _ => True) F' (n + 1) ∧ F' b = some a' ∧ (∀ k, k ≠ b → F' k = F k) ∧ DR (n + 1) (fun _ => True) w' r' a' ∧ Kept8 w w' ∧ KeptT w w' ∧ w.heap.size ≤ w'.heap.size
theorem did_end {w0 w W : World} {F F' : Nat → Option ADk} {b n g : Nat} {q : RD} {a' : ADk} {old : Array Value} (hs0 : w0.heap.size ≤ w.heap.size) (hK : Kept8 w W ∧ KeptT w W) (hs : w.heap.size ≤ W.heap.size) (hD : Disks w0 W (fun _ => True) F' (n + 1)) (hF : F' b = some a') (ho : ∀ k, k ≠ b → F' k = F k) (hR : DR (n + 1) (fun _ => True) W q a') (hz : W.heap[g]? = some (.cells old 53 (0, 0))) (hg : w.heap.size ≤ g) :
    Did w0 w F b n (.returned (.tuple #[.agg q.cells, .bool true])) (W.setRow g q.cells) :=
  have hgr := grown_row (w := W) g q.cells (blk_lt hz)
  ⟨q, a', F', rfl, hD.setBox (Nat.le_trans hs0 hg) hz (by decide) (by decide) (by decide) q.cells, hF, ho, hR.box hz (by decide) (by decide) hgr, kept8_new hK.1 hgr hg, keptT_new hK.2 hgr hg, Nat.le_trans hs hgr.size⟩
theorem PostB.len {w w' : World} {ok : Nat → Prop} {x : List Int} {z : Int} {e : Ending} {k : Nat} (h : PostB w ok x z e w') (hk : x.length = k) : ∃ A c, e = .returned (.tuple #[.slice A k c, .int .i64 z]) ∧ Kd.C ku8 w' A k x ∧ Below w.heap.size w w' := by
  obtain ⟨⟨A, m, c⟩, rfl, hr, hb⟩ := h
  have := hr.reads
  obtain rfl : m = k := this.1.trans hk
  exact ⟨A, c, rfl, by rw [← hk]; exact this.2.2, hb⟩
theorem PostR.lenC {w w' : World} {x : List Int} {z : Int} {e : Ending} {k : Nat} (h : PostR w x z e w') (hk : x.length = k) : ∃ A c, e = .returned (.tuple #[.slice A k c, .int .i64 z]) ∧ Kd.C ku8 w' A k x ∧ Below w.heap.size w w' := by
  subst hk
  obtain ⟨A, c, he, hr, hb⟩ := h
  exact ⟨A, c, he, (R_C hr).1, hb⟩
set_option maxRecDepth 100000 in
set_option maxHeartbeats 8000000 in
theorem does_cut {w0 w : World} {F : Nat → Option ADk} {b n : Nat} {a : ADk} {r : RD} (h : Disks w0 w (fun _ => True) F n) (hF : F b = some a) (hr : DR n (fun _ => True) w r a) (hn : n ≤ 1000) (on f N x torn : Int) (A : Option Addr) (L c : Nat) :
    Calls Try.prog 28 #[.pointer (some ⟨b, 0, none⟩), .agg r.cells, .agg #[.int .i64 2, .int .i64 on, .int .i64 f, .slice A L c, .int .i64 N, .int .i64 x, .int .i64 torn]] w (Did w0 w F b n) := by
  have HD0 := Lib.hid h
  have HF0 := Lib.hid hF
  have HRr := Lib.hid hr
  have HGd := Lib.hid (h.good hF)
  have HS0 := Lib.hid h.bel.size
  have hn12 : n ≤ 1099511627776 := by omega
  clear h hF hr
  go_enter Try.func28, Try.ntmps28
  go_upto_region 1 with (fail)
  have HDx := Lib.hid (blk_alloc (blk_alloc (blk_new w (.cells r.cells 53)) (.cells #[.int .i64 2, .int .i64 on, .int .i64 f, .slice A L c, .int .i64 N, .int .i64 x, .int .i64 torn] 57)) RZ)
  have HO : Hid ((((w.alloc (.cells r.cells 53)).alloc (.cells #[.int .i64 2, .int .i64 on, .int .i64 f, .slice A L c, .int .i64 N, .int .i64 x, .int .i64 torn] 57)).alloc RZ).heap[w.heap.size + 1]? = some (.cells #[.int .i64 2, .int .i64 on, .int .i64 f, .slice A L c, .int .i64 N, .int .i64 x, .int .i64 torn] 57 (0, 0))) := Lib.hid (by rw [← World.size_alloc w (.cells r.cells 53)]; exact blk_alloc (blk_new _ _) _)
  have HZ : Hid ((((w.alloc (.cells r.cells 53)).alloc (.cells #[.int .i64 2, .int .i64 on, .int .i64 f, .slice A L c, .int .i64 N, .int .i64 x, .int .i64 torn] 57)).alloc RZ).heap[w.heap.size + 1 + 1]? = some (.cells rz 53 (0, 0))) := Lib.hid (by
    have e : ∀ x y : Obj, ((w.alloc x).alloc y).heap.size = w.heap.size + 1 + 1 := fun x y => by simp only [World.size_alloc]
    rw [← e]
    exact blk_new _ _)
  have HB := Lib.hid (below_alloc (below_alloc (below_alloc (Below.refl w.heap.size w) (.cells r.cells 53)) (.cells #[.int .i64 2, .int .i64 on, .int .i64 f, .slice A L c, .int .i64 N, .int .i64 x, .int .i64 torn] 57)) RZ)
  unfold RZ rz at HDx HO HZ HB
  generalize ((w.alloc (.cells r.cells 53)).alloc (.cells #[.int .i64 2, .int .i64 on, .int .i64 f, .slice A L c, .int .i64 N, .int .i64 x, .int .i64 torn] 57)).alloc _ = W at HDx HO HZ HB ⊢
  obtain ⟨g, hg⟩ : ∃ g, g = w.heap.size := ⟨_, rfl⟩
  rw [← hg] at HDx HO HZ ⊢
  have HG := Lib.hid hg
  clear hg
  have HDk := Lib.hid (HD0.out.below HB.out)
  have HR0 := Lib.hid (HRr.out.below HB.out)
  have HK0 := Lib.hid (And.intro (Kept8.of_below HB.out) (KeptT.of_below HB.out))
  have HSz := Lib.hid HB.out.size
  obtain ⟨p, hp⟩ : ∃ p, p = a.cutTo f N := ⟨_, rfl⟩
  obtain ⟨a', z⟩ := p
  have HE := Lib.hid hp.symm
  clear hp
  have c0_W : W.cell? ⟨g + 1, 0, none⟩ = some (.int .i64 2) := (blk_cell HO.out 0).trans rfl
  have c2_W : W.cell? ⟨g + 1, 2, none⟩ = some (.int .i64 f) := (blk_cell HO.out 2).trans rfl
  have c4_W : W.cell? ⟨g + 1, 4, none⟩ = some (.int .i64 N) := (blk_cell HO.out 4).trans rfl
  go_wp2_with (fail)
  refine (HDk.out.cut HF0.out f N HE.out hn12).mono ?_
  rintro e w1 ⟨rfl, F1, hD, hb, hrr, hk, hsz, hkt⟩
  have HD1 := Lib.hid (hD.mono (ok' := fun _ => True) (fun _ _ => trivial))
  have HF1 := Lib.hid hb
  have HN1 := Lib.hid hrr
  have HK1 := Lib.hid (And.intro (HK0.out.1.then_ hk) (HK0.out.2.then_ hkt))
  have HR1 := Lib.hid (HR0.out.kept hk hkt)
  have HDx1 := Lib.hid (hkt _ _ _ (by decide) (by decide) HDx.out)
  have HO1 := Lib.hid (hkt _ _ _ (by decide) (by decide) HO.out)
  have HZ1 := Lib.hid (hkt _ _ _ (by decide) (by decide) HZ.out)
  have HS1 := Lib.hid (Nat.le_trans HSz.out hsz)
  clear hD hb hrr hk hsz hkt
  have c2_w1 : w1.cell? ⟨g + 1, 2, none⟩ = some (.int .i64 f) := (blk_cell HO1.out 2).trans rfl
  have c4_w1 : w1.cell? ⟨g + 1, 4, none⟩ = some (.int .i64 N) := (blk_cell HO1.out 4).trans rfl
  have HDoc := Lib.hid (show Calls Try.prog _ _ w1 (PostD (n + 1) w1 (fun _ => True) (a', z)) from HE.out ▸ cutR_calls HR1.out (by omega) HGd.out hn12 f N)
  go_wp2_with (first | (refine wl_load 53 (.tmp 4) rfl rfl _ _ rfl (rd_ld HDx1.out) ?_) | fail)
  refine HDoc.out.mono ?_
  rintro e w2 ⟨q, rfl, hq, hb⟩
  have HQ2 := Lib.hid (hq.mono (ok' := fun _ => True) (fun _ _ => trivial))
  have HZ2 := Lib.hid (blk_below HZ1.out hb)
  have HB2 := Lib.hid hb
  clear hq hb
  go_upto_region 12 with (first | (refine wl_store (old := rz) (cells := q.cells) 53 (.tmp 14) (.tmp 85) rfl rfl rfl rfl (blk_new w2 RZ) infoRd rfl (by simp [Value.oneCell', RD.cells]) ?_) | fail)
  have HT := Lib.hid (setRow_heap (w2.alloc RZ) w2.heap.size rz q.cells _ _ (blk_new w2 RZ))
  have HB3 := Lib.hid (below_setRow (below_alloc (Below.refl w2.heap.size w2) RZ) (Nat.le_refl _) q.cells)
  have HZ3 := Lib.hid (blk_below HZ2.out HB3.out)
  unfold RZ rz at HT HB3 HZ3
  generalize (w2.alloc _).setRow w2.heap.size q.cells = W3 at HT HB3 HZ3 ⊢
  obtain ⟨gt, hgt⟩ : ∃ x, x = w2.heap.size := ⟨_, rfl⟩
  rw [← hgt] at HT ⊢
  clear hgt
  go_wp2_with (first | (refine wl_load 53 (.tmp 14) rfl rfl _ _ rfl (rd_ld HT.out) ?_) | (refine wl_store (old := rz) (cells := q.cells) 53 (.tmp 6) (.tmp 87) rfl rfl rfl rfl HZ3.out infoRd rfl (by simp [Value.oneCell', RD.cells]) ?_) | fail)
  refine bodyPost_ret (results_ct rfl _ _ (g + 1 + 1) 53 q.cells (0, 0) _ rfl (setRow_heap _ _ _ _ _ _ HZ3.out) Try.underlying53 rfl infoRd) rfl ?_
  have hb13 := below_then HB2.out HB2.out.size HB3.out
  exact did_end HS0.out ⟨HK1.out.1.then_ (Kept8.of_below hb13), HK1.out.2.then_ (KeptT.of_below hb13)⟩ (Nat.le_trans HS1.out hb13.size) (HD1.out.below hb13) HF1.out HN1.out (HQ2.out.below HB3.out) HZ3.out (by have := HG.out; omega)
set_option maxRecDepth 100000 in
set_option maxHeartbeats 8000000 in
theorem does_sync {w0 w : World} {F : Nat → Option ADk} {b n : Nat} {a : ADk} {r : RD} (h : Disks w0 w (fun _ => True) F n) (hF : F b = some a) (hr : DR n (fun _ => True) w r a) (hn : n ≤ 1000) (on f N x torn : Int) (A : Option Addr) (L c : Nat) :
    Calls Try.prog 28 #[.pointer (some ⟨b, 0, none⟩), .agg r.cells, .agg #[.int .i64 3, .int .i64 on, .int .i64 f, .slice A L c, .int .i64 N, .int .i64 x, .int .i64 torn]] w (Did w0 w F b n) := by
  have HD0 := Lib.hid h
  have HF0 := Lib.hid hF
  have HRr := Lib.hid hr
  have HGd := Lib.hid (h.good hF)
  have HS0 := Lib.hid h.bel.size
  have hn12 : n ≤ 1099511627776 := by omega
  clear h hF hr
  go_enter Try.func28, Try.ntmps28
  go_upto_region 1 with (fail)
  have HDx := Lib.hid (blk_alloc (blk_alloc (blk_new w (.cells r.cells 53)) (.cells #[.int .i64 3, .int .i64 on, .int .i64 f, .slice A L c, .int .i64 N, .int .i64 x, .int .i64 torn] 57)) RZ)
  have HO : Hid ((((w.alloc (.cells r.cells 53)).alloc (.cells #[.int .i64 3, .int .i64 on, .int .i64 f, .slice A L c, .int .i64 N, .int .i64 x, .int .i64 torn] 57)).alloc RZ).heap[w.heap.size + 1]? = some (.cells #[.int .i64 3, .int .i64 on, .int .i64 f, .slice A L c, .int .i64 N, .int .i64 x, .int .i64 torn] 57 (0, 0))) := Lib.hid (by rw [← World.size_alloc w (.cells r.cells 53)]; exact blk_alloc (blk_new _ _) _)
  have HZ : Hid ((((w.alloc (.cells r.cells 53)).alloc (.cells #[.int .i64 3, .int .i64 on, .int .i64 f, .slice A L c, .int .i64 N, .int .i64 x, .int .i64 torn] 57)).alloc RZ).heap[w.heap.size + 1 + 1]? = some (.cells rz 53 (0, 0))) := Lib.hid (by
    have e : ∀ x y : Obj, ((w.alloc x).alloc y).heap.size = w.heap.size + 1 + 1 := fun x y => by simp only [World.size_alloc]
    rw [← e]
    exact blk_new _ _)
  have HB := Lib.hid (below_alloc (below_alloc (below_alloc (Below.refl w.heap.size w) (.cells r.cells 53)) (.cells #[.int .i64 3, .int .i64 on, .int .i64 f, .slice A L c, .int .i64 N, .int .i64 x, .int .i64 torn] 57)) RZ)
  unfold RZ rz at HDx HO HZ HB
  generalize ((w.alloc (.cells r.cells 53)).alloc (.cells #[.int .i64 3, .int .i64 on, .int .i64 f, .slice A L c, .int .i64 N, .int .i64 x, .int .i64 torn] 57)).alloc _ = W at HDx HO HZ HB ⊢
  obtain ⟨g, hg⟩ : ∃ g, g = w.heap.size := ⟨_, rfl⟩
  rw [← hg] at HDx HO HZ ⊢
  have HG := Lib.hid hg
  clear hg
  have HDk := Lib.hid (HD0.out.below HB.out)
  have HR0 := Lib.hid (HRr.out.below HB.out)
  have HK0 := Lib.hid (And.intro (Kept8.of_below HB.out) (KeptT.of_below HB.out))
  have HSz := Lib.hid HB.out.size
  obtain ⟨p, hp⟩ : ∃ p, p = a.sync := ⟨_, rfl⟩
  obtain ⟨a', z⟩ := p
  have HE := Lib.hid hp.symm
  clear hp
  have c0_W : W.cell? ⟨g + 1, 0, none⟩ = some (.int .i64 3) := (blk_cell HO.out 0).trans rfl
  go_wp2_with (fail)
  refine (HDk.out.sync HF0.out HE.out).mono ?_
  rintro e w1 ⟨rfl, F1, hD, hb, hrr, hk, hsz, hkt⟩
  have HD1 := Lib.hid ((hD.mono (ok' := fun _ => True) (fun _ _ => trivial)).le (Nat.le_succ n))
  have HF1 := Lib.hid hb
  have HN1 := Lib.hid hrr
  have HK1 := Lib.hid (And.intro (HK0.out.1.then_ hk) (HK0.out.2.then_ hkt))
  have HR1 := Lib.hid (HR0.out.kept hk hkt)
  have HDx1 := Lib.hid (hkt _ _ _ (by decide) (by decide) HDx.out)
  have HO1 := Lib.hid (hkt _ _ _ (by decide) (by decide) HO.out)
  have HZ1 := Lib.hid (hkt _ _ _ (by decide) (by decide) HZ.out)
  have HS1 := Lib.hid (Nat.le_trans HSz.out hsz)
  clear hD hb hrr hk hsz hkt
  have HDoc := Lib.hid (show Calls Try.prog _ _ w1 (PostD (n + 1) w1 (fun _ => True) (a', z)) from HE.out ▸ syncR_calls HR1.out (by omega) HGd.out hn12)
  go_wp2_with (first | (refine wl_load 53 (.tmp 4) rfl rfl _ _ rfl (rd_ld HDx1.out) ?_) | fail)
  refine HDoc.out.mono ?_
  rintro e w2 ⟨q, rfl, hq, hb⟩
  have HQ2 := Lib.hid (hq.mono (ok' := fun _ => True) (fun _ _ => trivial))
  have HZ2 := Lib.hid (blk_below HZ1.out hb)
  have HB2 := Lib.hid hb
  clear hq hb
  go_upto_region 16 with (first | (refine wl_store (old := rz) (cells := q.cells) 53 (.tmp 17) (.tmp 98) rfl rfl rfl rfl (blk_new w2 RZ) infoRd rfl (by simp [Value.oneCell', RD.cells]) ?_) | fail)
  have HT := Lib.hid (setRow_heap (w2.alloc RZ) w2.heap.size rz q.cells _ _ (blk_new w2 RZ))
  have HB3 := Lib.hid (below_setRow (below_alloc (Below.refl w2.heap.size w2) RZ) (Nat.le_refl _) q.cells)
  have HZ3 := Lib.hid (blk_below HZ2.out HB3.out)
  unfold RZ rz at HT HB3 HZ3
  generalize (w2.alloc _).setRow w2.heap.size q.cells = W3 at HT HB3 HZ3 ⊢
  obtain ⟨gt, hgt⟩ : ∃ x, x = w2.heap.size := ⟨_, rfl⟩
  rw [← hgt] at HT ⊢
  clear hgt
  go_wp2_with (first | (refine wl_load 53 (.tmp 17) rfl rfl _ _ rfl (rd_ld HT.out) ?_) | (refine wl_store (old := rz) (cells := q.cells) 53 (.tmp 6) (.tmp 100) rfl rfl rfl rfl HZ3.out infoRd rfl (by simp [Value.oneCell', RD.cells]) ?_) | fail)
  refine bodyPost_ret (results_ct rfl _ _ (g + 1 + 1) 53 q.cells (0, 0) _ rfl (setRow_heap _ _ _ _ _ _ HZ3.out) Try.underlying53 rfl infoRd) rfl ?_
  have hb13 := below_then HB2.out HB2.out.size HB3.out
  exact did_end HS0.out ⟨HK1.out.1.then_ (Kept8.of_below hb13), HK1.out.2.then_ (KeptT.of_below hb13)⟩ (Nat.le_trans HS1.out hb13.size) (HD1.out.below hb13) HF1.out HN1.out (HQ2.out.below HB3.out) HZ3.out (by have := HG.out; omega)
set_option maxRecDepth 100000 in
set_option maxHeartbeats 8000000 in
theorem does_arm {w0 w : World} {F : Nat → Option ADk} {b n : Nat} {a : ADk} {r : RD} (h : Disks w0 w (fun _ => True) F n) (hF : F b = some a) (hr : DR n (fun _ => True) w r a) (hn : n ≤ 1000) (on f N x torn : Int) (A : Option Addr) (L c : Nat) (hN : N ≤ 9223372036854775807) :
    Calls Try.prog 28 #[.pointer (some ⟨b, 0, none⟩), .agg r.cells, .agg #[.int .i64 5, .int .i64 on, .int .i64 f, .slice A L c, .int .i64 N, .int .i64 x, .int .i64 torn]] w (Did w0 w F b n) := by
  have HX := Lib.hid hN
  clear hN
  have HD0 := Lib.hid h
  have HF0 := Lib.hid hF
  have HRr := Lib.hid hr
  have HGd := Lib.hid (h.good hF)
  have HS0 := Lib.hid h.bel.size
  have hn12 : n ≤ 1099511627776 := by omega
  clear h hF hr
  go_enter Try.func28, Try.ntmps28
  go_upto_region 1 with (fail)
  have HDx := Lib.hid (blk_alloc (blk_alloc (blk_new w (.cells r.cells 53)) (.cells #[.int .i64 5, .int .i64 on, .int .i64 f, .slice A L c, .int .i64 N, .int .i64 x, .int .i64 torn] 57)) RZ)
  have HO : Hid ((((w.alloc (.cells r.cells 53)).alloc (.cells #[.int .i64 5, .int .i64 on, .int .i64 f, .slice A L c, .int .i64 N, .int .i64 x, .int .i64 torn] 57)).alloc RZ).heap[w.heap.size + 1]? = some (.cells #[.int .i64 5, .int .i64 on, .int .i64 f, .slice A L c, .int .i64 N, .int .i64 x, .int .i64 torn] 57 (0, 0))) := Lib.hid (by rw [← World.size_alloc w (.cells r.cells 53)]; exact blk_alloc (blk_new _ _) _)
  have HZ : Hid ((((w.alloc (.cells r.cells 53)).alloc (.cells #[.int .i64 5, .int .i64 on, .int .i64 f, .slice A L c, .int .i64 N, .int .i64 x, .int .i64 torn] 57)).alloc RZ).heap[w.heap.size + 1 + 1]? = some (.cells rz 53 (0, 0))) := Lib.hid (by
    have e : ∀ x y : Obj, ((w.alloc x).alloc y).heap.size = w.heap.size + 1 + 1 := fun x y => by simp only [World.size_alloc]
    rw [← e]
    exact blk_new _ _)
  have HB := Lib.hid (below_alloc (below_alloc (below_alloc (Below.refl w.heap.size w) (.cells r.cells 53)) (.cells #[.int .i64 5, .int .i64 on, .int .i64 f, .slice A L c, .int .i64 N, .int .i64 x, .int .i64 torn] 57)) RZ)
  unfold RZ rz at HDx HO HZ HB
  generalize ((w.alloc (.cells r.cells 53)).alloc (.cells #[.int .i64 5, .int .i64 on, .int .i64 f, .slice A L c, .int .i64 N, .int .i64 x, .int .i64 torn] 57)).alloc _ = W at HDx HO HZ HB ⊢
  obtain ⟨g, hg⟩ : ∃ g, g = w.heap.size := ⟨_, rfl⟩
  rw [← hg] at HDx HO HZ ⊢
  have HG := Lib.hid hg
  clear hg
  have HDk := Lib.hid (HD0.out.below HB.out)
  have HR0 := Lib.hid (HRr.out.below HB.out)
  have HK0 := Lib.hid (And.intro (Kept8.of_below HB.out) (KeptT.of_below HB.out))
  have HSz := Lib.hid HB.out.size
  obtain ⟨p, hp⟩ : ∃ p, p = a.armed N := ⟨_, rfl⟩
  obtain ⟨a', z⟩ := p
  have HE := Lib.hid hp.symm
  clear hp
  have c0_W : W.cell? ⟨g + 1, 0, none⟩ = some (.int .i64 5) := (blk_cell HO.out 0).trans rfl
  have c4_W : W.cell? ⟨g + 1, 4, none⟩ = some (.int .i64 N) := (blk_cell HO.out 4).trans rfl
  go_wp2_with (fail)
  refine (HDk.out.arm HF0.out N HE.out).mono ?_
  rintro e w1 ⟨rfl, F1, hD, hb, hrr, hk, hsz, hkt⟩
  have HD1 := Lib.hid ((hD.mono (ok' := fun _ => True) (fun _ _ => trivial)).le (Nat.le_succ n))
  have HF1 := Lib.hid hb
  have HN1 := Lib.hid hrr
  have HK1 := Lib.hid (And.intro (HK0.out.1.then_ hk) (HK0.out.2.then_ hkt))
  have HR1 := Lib.hid (HR0.out.kept hk hkt)
  have HDx1 := Lib.hid (hkt _ _ _ (by decide) (by decide) HDx.out)
  have HO1 := Lib.hid (hkt _ _ _ (by decide) (by decide) HO.out)
  have HZ1 := Lib.hid (hkt _ _ _ (by decide) (by decide) HZ.out)
  have HS1 := Lib.hid (Nat.le_trans HSz.out hsz)
  clear hD hb hrr hk hsz hkt
  have c4_w1 : w1.cell? ⟨g + 1, 4, none⟩ = some (.int .i64 N) := (blk_cell HO1.out 4).trans rfl
  have HDoc := Lib.hid (show Calls Try.prog _ _ w1 (PostD (n) w1 (fun _ => True) (a', z)) from HE.out ▸ armedD_calls HR1.out N HX.out)
  go_wp2_with (first | (refine wl_load 53 (.tmp 4) rfl rfl _ _ rfl (rd_ld HDx1.out) ?_) | fail)
  refine HDoc.out.mono ?_
  rintro e w2 ⟨q, rfl, hq, hb⟩
  have HQ2 := Lib.hid (hq.mono (ok' := fun _ => True) (fun _ _ => trivial))
  have HZ2 := Lib.hid (blk_below HZ1.out hb)
  have HB2 := Lib.hid hb
  clear hq hb
  go_upto_region 26 with (first | (refine wl_store (old := rz) (cells := q.cells) 53 (.tmp 28) (.tmp 164) rfl rfl rfl rfl (blk_new w2 RZ) infoRd rfl (by simp [Value.oneCell', RD.cells]) ?_) | fail)
  have HT := Lib.hid (setRow_heap (w2.alloc RZ) w2.heap.size rz q.cells _ _ (blk_new w2 RZ))
  have HB3 := Lib.hid (below_setRow (below_alloc (Below.refl w2.heap.size w2) RZ) (Nat.le_refl _) q.cells)
  have HZ3 := Lib.hid (blk_below HZ2.out HB3.out)
  unfold RZ rz at HT HB3 HZ3
  generalize (w2.alloc _).setRow w2.heap.size q.cells = W3 at HT HB3 HZ3 ⊢
  obtain ⟨gt, hgt⟩ : ∃ x, x = w2.heap.size := ⟨_, rfl⟩
  rw [← hgt] at HT ⊢
  clear hgt
  go_wp2_with (first | (refine wl_load 53 (.tmp 28) rfl rfl _ _ rfl (rd_ld HT.out) ?_) | (refine wl_store (old := rz) (cells := q.cells) 53 (.tmp 6) (.tmp 166) rfl rfl rfl rfl HZ3.out infoRd rfl (by simp [Value.oneCell', RD.cells]) ?_) | fail)
  refine bodyPost_ret (results_ct rfl _ _ (g + 1 + 1) 53 q.cells (0, 0) _ rfl (setRow_heap _ _ _ _ _ _ HZ3.out) Try.underlying53 rfl infoRd) rfl ?_
  have hb13 := below_then HB2.out HB2.out.size HB3.out
  exact did_end HS0.out ⟨HK1.out.1.then_ (Kept8.of_below hb13), HK1.out.2.then_ (KeptT.of_below hb13)⟩ (Nat.le_trans HS1.out hb13.size) (HD1.out.below hb13) HF1.out HN1.out ((HQ2.out.below HB3.out).le (Nat.le_succ n)) HZ3.out (by have := HG.out; omega)
set_option maxRecDepth 100000 in
set_option maxHeartbeats 8000000 in
theorem does_fail {w0 w : World} {F : Nat → Option ADk} {b n : Nat} {a : ADk} {r : RD} (h : Disks w0 w (fun _ => True) F n) (hF : F b = some a) (hr : DR n (fun _ => True) w r a) (hn : n ≤ 1000) (on f N x torn : Int) (A : Option Addr) (L c : Nat) (hN : N ≤ 9223372036854775807) :
    Calls Try.prog 28 #[.pointer (some ⟨b, 0, none⟩), .agg r.cells, .agg #[.int .i64 6, .int .i64 on, .int .i64 f, .slice A L c, .int .i64 N, .int .i64 x, .int .i64 torn]] w (Did w0 w F b n) := by
  have HX := Lib.hid hN
  clear hN
  have HD0 := Lib.hid h
  have HF0 := Lib.hid hF
  have HRr := Lib.hid hr
  have HGd := Lib.hid (h.good hF)
  have HS0 := Lib.hid h.bel.size
  have hn12 : n ≤ 1099511627776 := by omega
  clear h hF hr
  go_enter Try.func28, Try.ntmps28
  go_upto_region 1 with (fail)
  have HDx := Lib.hid (blk_alloc (blk_alloc (blk_new w (.cells r.cells 53)) (.cells #[.int .i64 6, .int .i64 on, .int .i64 f, .slice A L c, .int .i64 N, .int .i64 x, .int .i64 torn] 57)) RZ)
  have HO : Hid ((((w.alloc (.cells r.cells 53)).alloc (.cells #[.int .i64 6, .int .i64 on, .int .i64 f, .slice A L c, .int .i64 N, .int .i64 x, .int .i64 torn] 57)).alloc RZ).heap[w.heap.size + 1]? = some (.cells #[.int .i64 6, .int .i64 on, .int .i64 f, .slice A L c, .int .i64 N, .int .i64 x, .int .i64 torn] 57 (0, 0))) := Lib.hid (by rw [← World.size_alloc w (.cells r.cells 53)]; exact blk_alloc (blk_new _ _) _)
  have HZ : Hid ((((w.alloc (.cells r.cells 53)).alloc (.cells #[.int .i64 6, .int .i64 on, .int .i64 f, .slice A L c, .int .i64 N, .int .i64 x, .int .i64 torn] 57)).alloc RZ).heap[w.heap.size + 1 + 1]? = some (.cells rz 53 (0, 0))) := Lib.hid (by
    have e : ∀ x y : Obj, ((w.alloc x).alloc y).heap.size = w.heap.size + 1 + 1 := fun x y => by simp only [World.size_alloc]
    rw [← e]
    exact blk_new _ _)
  have HB := Lib.hid (below_alloc (below_alloc (below_alloc (Below.refl w.heap.size w) (.cells r.cells 53)) (.cells #[.int .i64 6, .int .i64 on, .int .i64 f, .slice A L c, .int .i64 N, .int .i64 x, .int .i64 torn] 57)) RZ)
  unfold RZ rz at HDx HO HZ HB
  generalize ((w.alloc (.cells r.cells 53)).alloc (.cells #[.int .i64 6, .int .i64 on, .int .i64 f, .slice A L c, .int .i64 N, .int .i64 x, .int .i64 torn] 57)).alloc _ = W at HDx HO HZ HB ⊢
  obtain ⟨g, hg⟩ : ∃ g, g = w.heap.size := ⟨_, rfl⟩
  rw [← hg] at HDx HO HZ ⊢
  have HG := Lib.hid hg
  clear hg
  have HDk := Lib.hid (HD0.out.below HB.out)
  have HR0 := Lib.hid (HRr.out.below HB.out)
  have HK0 := Lib.hid (And.intro (Kept8.of_below HB.out) (KeptT.of_below HB.out))
  have HSz := Lib.hid HB.out.size
  obtain ⟨p, hp⟩ : ∃ p, p = a.failing N x := ⟨_, rfl⟩
  obtain ⟨a', z⟩ := p
  have HE := Lib.hid hp.symm
  clear hp
  have c0_W : W.cell? ⟨g + 1, 0, none⟩ = some (.int .i64 6) := (blk_cell HO.out 0).trans rfl
  have c4_W : W.cell? ⟨g + 1, 4, none⟩ = some (.int .i64 N) := (blk_cell HO.out 4).trans rfl
  have c5_W : W.cell? ⟨g + 1, 5, none⟩ = some (.int .i64 x) := (blk_cell HO.out 5).trans rfl
  go_wp2_with (fail)
  refine (HDk.out.fail HF0.out N x HE.out).mono ?_
  rintro e w1 ⟨rfl, F1, hD, hb, hrr, hk, hsz, hkt⟩
  have HD1 := Lib.hid ((hD.mono (ok' := fun _ => True) (fun _ _ => trivial)).le (Nat.le_succ n))
  have HF1 := Lib.hid hb
  have HN1 := Lib.hid hrr
  have HK1 := Lib.hid (And.intro (HK0.out.1.then_ hk) (HK0.out.2.then_ hkt))
  have HR1 := Lib.hid (HR0.out.kept hk hkt)
  have HDx1 := Lib.hid (hkt _ _ _ (by decide) (by decide) HDx.out)
  have HO1 := Lib.hid (hkt _ _ _ (by decide) (by decide) HO.out)
  have HZ1 := Lib.hid (hkt _ _ _ (by decide) (by decide) HZ.out)
  have HS1 := Lib.hid (Nat.le_trans HSz.out hsz)
  clear hD hb hrr hk hsz hkt
  have c4_w1 : w1.cell? ⟨g + 1, 4, none⟩ = some (.int .i64 N) := (blk_cell HO1.out 4).trans rfl
  have c5_w1 : w1.cell? ⟨g + 1, 5, none⟩ = some (.int .i64 x) := (blk_cell HO1.out 5).trans rfl
  have HDoc := Lib.hid (show Calls Try.prog _ _ w1 (PostD (n) w1 (fun _ => True) (a', z)) from HE.out ▸ failingD_calls HR1.out N x HX.out)
  go_wp2_with (first | (refine wl_load 53 (.tmp 4) rfl rfl _ _ rfl (rd_ld HDx1.out) ?_) | fail)
  refine HDoc.out.mono ?_
  rintro e w2 ⟨q, rfl, hq, hb⟩
  have HQ2 := Lib.hid (hq.mono (ok' := fun _ => True) (fun _ _ => trivial))
  have HZ2 := Lib.hid (blk_below HZ1.out hb)
  have HB2 := Lib.hid hb
  clear hq hb
  go_upto_region 30 with (first | (refine wl_store (old := rz) (cells := q.cells) 53 (.tmp 31) (.tmp 185) rfl rfl rfl rfl (blk_new w2 RZ) infoRd rfl (by simp [Value.oneCell', RD.cells]) ?_) | fail)
  have HT := Lib.hid (setRow_heap (w2.alloc RZ) w2.heap.size rz q.cells _ _ (blk_new w2 RZ))
  have HB3 := Lib.hid (below_setRow (below_alloc (Below.refl w2.heap.size w2) RZ) (Nat.le_refl _) q.cells)
  have HZ3 := Lib.hid (blk_below HZ2.out HB3.out)
  unfold RZ rz at HT HB3 HZ3
  generalize (w2.alloc _).setRow w2.heap.size q.cells = W3 at HT HB3 HZ3 ⊢
  obtain ⟨gt, hgt⟩ : ∃ x, x = w2.heap.size := ⟨_, rfl⟩
  rw [← hgt] at HT ⊢
  clear hgt
  go_wp2_with (first | (refine wl_load 53 (.tmp 31) rfl rfl _ _ rfl (rd_ld HT.out) ?_) | (refine wl_store (old := rz) (cells := q.cells) 53 (.tmp 6) (.tmp 187) rfl rfl rfl rfl HZ3.out infoRd rfl (by simp [Value.oneCell', RD.cells]) ?_) | fail)
  refine bodyPost_ret (results_ct rfl _ _ (g + 1 + 1) 53 q.cells (0, 0) _ rfl (setRow_heap _ _ _ _ _ _ HZ3.out) Try.underlying53 rfl infoRd) rfl ?_
  have hb13 := below_then HB2.out HB2.out.size HB3.out
  exact did_end HS0.out ⟨HK1.out.1.then_ (Kept8.of_below hb13), HK1.out.2.then_ (KeptT.of_below hb13)⟩ (Nat.le_trans HS1.out hb13.size) (HD1.out.below hb13) HF1.out HN1.out ((HQ2.out.below HB3.out).le (Nat.le_succ n)) HZ3.out (by have := HG.out; omega)
set_option maxRecDepth 100000 in
set_option maxHeartbeats 8000000 in
theorem does_crash {w0 w : World} {F : Nat → Option ADk} {b n : Nat} {a : ADk} {r : RD} (h : Disks w0 w (fun _ => True) F n) (hF : F b = some a) (hr : DR n (fun _ => True) w r a) (hn : n ≤ 1000) (on f N x torn : Int) (A : Option Addr) (L c : Nat) (hN : N ≤ 9223372036854775807) :
    Calls Try.prog 28 #[.pointer (some ⟨b, 0, none⟩), .agg r.cells, .agg #[.int .i64 7, .int .i64 on, .int .i64 f, .slice A L c, .int .i64 N, .int .i64 x, .int .i64 torn]] w (Did w0 w F b n) := by
  have HX := Lib.hid hN
  clear hN
  have HD0 := Lib.hid h
  have HF0 := Lib.hid hF
  have HRr := Lib.hid hr
  have HGd := Lib.hid (h.good hF)
  have HS0 := Lib.hid h.bel.size
  have hn12 : n ≤ 1099511627776 := by omega
  clear h hF hr
  go_enter Try.func28, Try.ntmps28
  go_upto_region 1 with (fail)
  have HDx := Lib.hid (blk_alloc (blk_alloc (blk_new w (.cells r.cells 53)) (.cells #[.int .i64 7, .int .i64 on, .int .i64 f, .slice A L c, .int .i64 N, .int .i64 x, .int .i64 torn] 57)) RZ)
  have HO : Hid ((((w.alloc (.cells r.cells 53)).alloc (.cells #[.int .i64 7, .int .i64 on, .int .i64 f, .slice A L c, .int .i64 N, .int .i64 x, .int .i64 torn] 57)).alloc RZ).heap[w.heap.size + 1]? = some (.cells #[.int .i64 7, .int .i64 on, .int .i64 f, .slice A L c, .int .i64 N, .int .i64 x, .int .i64 torn] 57 (0, 0))) := Lib.hid (by rw [← World.size_alloc w (.cells r.cells 53)]; exact blk_alloc (blk_new _ _) _)
  have HZ : Hid ((((w.alloc (.cells r.cells 53)).alloc (.cells #[.int .i64 7, .int .i64 on, .int .i64 f, .slice A L c, .int .i64 N, .int .i64 x, .int .i64 torn] 57)).alloc RZ).heap[w.heap.size + 1 + 1]? = some (.cells rz 53 (0, 0))) := Lib.hid (by
    have e : ∀ x y : Obj, ((w.alloc x).alloc y).heap.size = w.heap.size + 1 + 1 := fun x y => by simp only [World.size_alloc]
    rw [← e]
    exact blk_new _ _)
  have HB := Lib.hid (below_alloc (below_alloc (below_alloc (Below.refl w.heap.size w) (.cells r.cells 53)) (.cells #[.int .i64 7, .int .i64 on, .int .i64 f, .slice A L c, .int .i64 N, .int .i64 x, .int .i64 torn] 57)) RZ)
  unfold RZ rz at HDx HO HZ HB
  generalize ((w.alloc (.cells r.cells 53)).alloc (.cells #[.int .i64 7, .int .i64 on, .int .i64 f, .slice A L c, .int .i64 N, .int .i64 x, .int .i64 torn] 57)).alloc _ = W at HDx HO HZ HB ⊢
  obtain ⟨g, hg⟩ : ∃ g, g = w.heap.size := ⟨_, rfl⟩
  rw [← hg] at HDx HO HZ ⊢
  have HG := Lib.hid hg
  clear hg
  have HDk := Lib.hid (HD0.out.below HB.out)
  have HR0 := Lib.hid (HRr.out.below HB.out)
  have HK0 := Lib.hid (And.intro (Kept8.of_below HB.out) (KeptT.of_below HB.out))
  have HSz := Lib.hid HB.out.size
  obtain ⟨p, hp⟩ : ∃ p, p = a.crash N torn := ⟨_, rfl⟩
  obtain ⟨a', z⟩ := p
  have HE := Lib.hid hp.symm
  clear hp
  have c0_W : W.cell? ⟨g + 1, 0, none⟩ = some (.int .i64 7) := (blk_cell HO.out 0).trans rfl
  have c4_W : W.cell? ⟨g + 1, 4, none⟩ = some (.int .i64 N) := (blk_cell HO.out 4).trans rfl
  have c6_W : W.cell? ⟨g + 1, 6, none⟩ = some (.int .i64 torn) := (blk_cell HO.out 6).trans rfl
  go_wp2_with (fail)
  refine (HDk.out.crash HF0.out N torn HE.out).mono ?_
  rintro e w1 ⟨rfl, F1, hD, hb, hrr, hk, hsz, hkt⟩
  have HD1 := Lib.hid ((hD.mono (ok' := fun _ => True) (fun _ _ => trivial)).le (Nat.le_succ n))
  have HF1 := Lib.hid hb
  have HN1 := Lib.hid hrr
  have HK1 := Lib.hid (And.intro (HK0.out.1.then_ hk) (HK0.out.2.then_ hkt))
  have HR1 := Lib.hid (HR0.out.kept hk hkt)
  have HDx1 := Lib.hid (hkt _ _ _ (by decide) (by decide) HDx.out)
  have HO1 := Lib.hid (hkt _ _ _ (by decide) (by decide) HO.out)
  have HZ1 := Lib.hid (hkt _ _ _ (by decide) (by decide) HZ.out)
  have HS1 := Lib.hid (Nat.le_trans HSz.out hsz)
  clear hD hb hrr hk hsz hkt
  have c4_w1 : w1.cell? ⟨g + 1, 4, none⟩ = some (.int .i64 N) := (blk_cell HO1.out 4).trans rfl
  have c6_w1 : w1.cell? ⟨g + 1, 6, none⟩ = some (.int .i64 torn) := (blk_cell HO1.out 6).trans rfl
  have HDoc := Lib.hid (show Calls Try.prog _ _ w1 (PostD (n) w1 (fun _ => True) (a', z)) from HE.out ▸ crashR_calls HR1.out HGd.out hn12 N torn HX.out)
  go_wp2_with (first | (refine wl_load 53 (.tmp 4) rfl rfl _ _ rfl (rd_ld HDx1.out) ?_) | fail)
  refine HDoc.out.mono ?_
  rintro e w2 ⟨q, rfl, hq, hb⟩
  have HQ2 := Lib.hid (hq.mono (ok' := fun _ => True) (fun _ _ => trivial))
  have HZ2 := Lib.hid (blk_below HZ1.out hb)
  have HB2 := Lib.hid hb
  clear hq hb
  go_upto_region 34 with (first | (refine wl_store (old := rz) (cells := q.cells) 53 (.tmp 34) (.tmp 206) rfl rfl rfl rfl (blk_new w2 RZ) infoRd rfl (by simp [Value.oneCell', RD.cells]) ?_) | fail)
  have HT := Lib.hid (setRow_heap (w2.alloc RZ) w2.heap.size rz q.cells _ _ (blk_new w2 RZ))
  have HB3 := Lib.hid (below_setRow (below_alloc (Below.refl w2.heap.size w2) RZ) (Nat.le_refl _) q.cells)
  have HZ3 := Lib.hid (blk_below HZ2.out HB3.out)
  unfold RZ rz at HT HB3 HZ3
  generalize (w2.alloc _).setRow w2.heap.size q.cells = W3 at HT HB3 HZ3 ⊢
  obtain ⟨gt, hgt⟩ : ∃ x, x = w2.heap.size := ⟨_, rfl⟩
  rw [← hgt] at HT ⊢
  clear hgt
  go_wp2_with (first | (refine wl_load 53 (.tmp 34) rfl rfl _ _ rfl (rd_ld HT.out) ?_) | (refine wl_store (old := rz) (cells := q.cells) 53 (.tmp 6) (.tmp 208) rfl rfl rfl rfl HZ3.out infoRd rfl (by simp [Value.oneCell', RD.cells]) ?_) | fail)
  refine bodyPost_ret (results_ct rfl _ _ (g + 1 + 1) 53 q.cells (0, 0) _ rfl (setRow_heap _ _ _ _ _ _ HZ3.out) Try.underlying53 rfl infoRd) rfl ?_
  have hb13 := below_then HB2.out HB2.out.size HB3.out
  exact did_end HS0.out ⟨HK1.out.1.then_ (Kept8.of_below hb13), HK1.out.2.then_ (KeptT.of_below hb13)⟩ (Nat.le_trans HS1.out hb13.size) (HD1.out.below hb13) HF1.out HN1.out ((HQ2.out.below HB3.out).le (Nat.le_succ n)) HZ3.out (by have := HG.out; omega)
set_option maxRecDepth 100000 in
set_option maxHeartbeats 8000000 in
theorem does_else {w0 w : World} {F : Nat → Option ADk} {b n : Nat} {a : ADk} {r : RD} (h : Disks w0 w (fun _ => True) F n) (hF : F b = some a) (hr : DR n (fun _ => True) w r a) (hn : n ≤ 1000) (K on f N x torn : Int) (A : Option Addr) (L c : Nat) (h1 : K ≠ 1) (h2 : K ≠ 2) (h3 : K ≠ 3) (h4 : K ≠ 4) (h5 : K ≠ 5) (h6 : K ≠ 6) (h7 : K ≠ 7) :
    Calls Try.prog 28 #[.pointer (some ⟨b, 0, none⟩), .agg r.cells, .agg #[.int .i64 K, .int .i64 on, .int .i64 f, .slice A L c, .int .i64 N, .int .i64 x, .int .i64 torn]] w (Did w0 w F b n) := by
  have HKs := Lib.hid (And.intro h1 (And.intro h2 (And.intro h3 (And.intro h4 (And.intro h5 (And.intro h6 h7))))))
  clear h1 h2 h3 h4 h5 h6 h7
  have HD0 := Lib.hid h
  have HF0 := Lib.hid hF
  have HRr := Lib.hid hr
  have HGd := Lib.hid (h.good hF)
  have HS0 := Lib.hid h.bel.size
  have hn12 : n ≤ 1099511627776 := by omega
  clear h hF hr
  go_enter Try.func28, Try.ntmps28
  go_upto_region 1 with (fail)
  have HDx := Lib.hid (blk_alloc (blk_alloc (blk_new w (.cells r.cells 53)) (.cells #[.int .i64 K, .int .i64 on, .int .i64 f, .slice A L c, .int .i64 N, .int .i64 x, .int .i64 torn] 57)) RZ)
  have HO : Hid ((((w.alloc (.cells r.cells 53)).alloc (.cells #[.int .i64 K, .int .i64 on, .int .i64 f, .slice A L c, .int .i64 N, .int .i64 x, .int .i64 torn] 57)).alloc RZ).heap[w.heap.size + 1]? = some (.cells #[.int .i64 K, .int .i64 on, .int .i64 f, .slice A L c, .int .i64 N, .int .i64 x, .int .i64 torn] 57 (0, 0))) := Lib.hid (by rw [← World.size_alloc w (.cells r.cells 53)]; exact blk_alloc (blk_new _ _) _)
  have HZ : Hid ((((w.alloc (.cells r.cells 53)).alloc (.cells #[.int .i64 K, .int .i64 on, .int .i64 f, .slice A L c, .int .i64 N, .int .i64 x, .int .i64 torn] 57)).alloc RZ).heap[w.heap.size + 1 + 1]? = some (.cells rz 53 (0, 0))) := Lib.hid (by
    have e : ∀ x y : Obj, ((w.alloc x).alloc y).heap.size = w.heap.size + 1 + 1 := fun x y => by simp only [World.size_alloc]
    rw [← e]
    exact blk_new _ _)
  have HB := Lib.hid (below_alloc (below_alloc (below_alloc (Below.refl w.heap.size w) (.cells r.cells 53)) (.cells #[.int .i64 K, .int .i64 on, .int .i64 f, .slice A L c, .int .i64 N, .int .i64 x, .int .i64 torn] 57)) RZ)
  unfold RZ rz at HDx HO HZ HB
  generalize ((w.alloc (.cells r.cells 53)).alloc (.cells #[.int .i64 K, .int .i64 on, .int .i64 f, .slice A L c, .int .i64 N, .int .i64 x, .int .i64 torn] 57)).alloc _ = W at HDx HO HZ HB ⊢
  obtain ⟨g, hg⟩ : ∃ g, g = w.heap.size := ⟨_, rfl⟩
  rw [← hg] at HDx HO HZ ⊢
  have HG := Lib.hid hg
  clear hg
  have HDk := Lib.hid (HD0.out.below HB.out)
  have HR0 := Lib.hid (HRr.out.below HB.out)
  have HK0 := Lib.hid (And.intro (Kept8.of_below HB.out) (KeptT.of_below HB.out))
  have HSz := Lib.hid HB.out.size
  have c0_W : W.cell? ⟨g + 1, 0, none⟩ = some (.int .i64 K) := (blk_cell HO.out 0).trans rfl
  obtain ⟨h1, h2, h3, h4, h5, h6, h7⟩ := HKs.out
  have e1 : (K == 1) = false := by simp [h1]
  have e2 : (K == 2) = false := by simp [h2]
  have e3 : (K == 3) = false := by simp [h3]
  have e4 : (K == 4) = false := by simp [h4]
  have e5 : (K == 5) = false := by simp [h5]
  have e6 : (K == 6) = false := by simp [h6]
  have e7 : (K == 7) = false := by simp [h7]
  go_wp2_with (first | (refine wl_load 53 (.tmp 4) rfl rfl _ _ rfl (rd_ld HDx.out) ?_) | (refine wl_store (old := rz) (cells := r.cells) 53 (.tmp 6) (.tmp 212) rfl rfl rfl rfl HZ.out infoRd rfl (by simp [Value.oneCell', RD.cells]) ?_) | fail)
  refine bodyPost_ret (results_ct rfl _ _ (g + 1 + 1) 53 r.cells (0, 0) _ rfl (setRow_heap _ _ _ _ _ _ HZ.out) Try.underlying53 rfl infoRd) rfl ?_
  exact did_end HS0.out HK0.out HSz.out (HDk.out.le (Nat.le_succ n)) HF0.out (fun _ _ => rfl) (HR0.out.le (Nat.le_succ n)) HZ.out (by have := HG.out; omega)
set_option maxRecDepth 100000 in
set_option maxHeartbeats 8000000 in
theorem does_append {w0 w : World} {F : Nat → Option ADk} {b n : Nat} {a : ADk} {r : RD} (h : Disks w0 w (fun _ => True) F n) (hF : F b = some a) (hr : DR n (fun _ => True) w r a) (hn : n ≤ 1000) (on f N x torn : Int) (A : Option Addr) (L c : Nat) (X : List Int) (hX : X.length = L) (hx : Kd.C ku8 w0 A L X) (hLl : L ≤ 4398046511104) :
    Calls Try.prog 28 #[.pointer (some ⟨b, 0, none⟩), .agg r.cells, .agg #[.int .i64 1, .int .i64 on, .int .i64 f, .slice A L c, .int .i64 N, .int .i64 x, .int .i64 torn]] w (Did w0 w F b n) := by
  have HX := Lib.hid (And.intro hX (And.intro hx hLl))
  clear hX hx hLl
  have HD0 := Lib.hid h
  have HF0 := Lib.hid hF
  have HRr := Lib.hid hr
  have HGd := Lib.hid (h.good hF)
  have HS0 := Lib.hid h.bel.size
  have hn12 : n ≤ 1099511627776 := by omega
  clear h hF hr
  go_enter Try.func28, Try.ntmps28
  go_upto_region 1 with (fail)
  have HDx := Lib.hid (blk_alloc (blk_alloc (blk_new w (.cells r.cells 53)) (.cells #[.int .i64 1, .int .i64 on, .int .i64 f, .slice A L c, .int .i64 N, .int .i64 x, .int .i64 torn] 57)) RZ)
  have HO : Hid ((((w.alloc (.cells r.cells 53)).alloc (.cells #[.int .i64 1, .int .i64 on, .int .i64 f, .slice A L c, .int .i64 N, .int .i64 x, .int .i64 torn] 57)).alloc RZ).heap[w.heap.size + 1]? = some (.cells #[.int .i64 1, .int .i64 on, .int .i64 f, .slice A L c, .int .i64 N, .int .i64 x, .int .i64 torn] 57 (0, 0))) := Lib.hid (by rw [← World.size_alloc w (.cells r.cells 53)]; exact blk_alloc (blk_new _ _) _)
  have HZ : Hid ((((w.alloc (.cells r.cells 53)).alloc (.cells #[.int .i64 1, .int .i64 on, .int .i64 f, .slice A L c, .int .i64 N, .int .i64 x, .int .i64 torn] 57)).alloc RZ).heap[w.heap.size + 1 + 1]? = some (.cells rz 53 (0, 0))) := Lib.hid (by
    have e : ∀ x y : Obj, ((w.alloc x).alloc y).heap.size = w.heap.size + 1 + 1 := fun x y => by simp only [World.size_alloc]
    rw [← e]
    exact blk_new _ _)
  have HB := Lib.hid (below_alloc (below_alloc (below_alloc (Below.refl w.heap.size w) (.cells r.cells 53)) (.cells #[.int .i64 1, .int .i64 on, .int .i64 f, .slice A L c, .int .i64 N, .int .i64 x, .int .i64 torn] 57)) RZ)
  unfold RZ rz at HDx HO HZ HB
  generalize ((w.alloc (.cells r.cells 53)).alloc (.cells #[.int .i64 1, .int .i64 on, .int .i64 f, .slice A L c, .int .i64 N, .int .i64 x, .int .i64 torn] 57)).alloc _ = W at HDx HO HZ HB ⊢
  obtain ⟨g, hg⟩ : ∃ g, g = w.heap.size := ⟨_, rfl⟩
  rw [← hg] at HDx HO HZ ⊢
  have HG := Lib.hid hg
  clear hg
  have HDk := Lib.hid (HD0.out.below HB.out)
  have HR0 := Lib.hid (HRr.out.below HB.out)
  have HK0 := Lib.hid (And.intro (Kept8.of_below HB.out) (KeptT.of_below HB.out))
  have HSz := Lib.hid HB.out.size
  obtain ⟨p, hp⟩ : ∃ p, p = a.append f X := ⟨_, rfl⟩
  obtain ⟨a', z⟩ := p
  have HE := Lib.hid hp.symm
  clear hp
  have c0_W : W.cell? ⟨g + 1, 0, none⟩ = some (.int .i64 1) := (blk_cell HO.out 0).trans rfl
  have c3_W : W.cell? ⟨g + 1, 3, none⟩ = some (.slice A L c) := (blk_cell HO.out 3).trans rfl
  have HLt := Lib.hid (show Calls Try.prog 39 #[.slice A L c] W fun e w' => ∃ gl cap, e = .returned (.slice (some ⟨gl, 0, none⟩) L cap) ∧ W.heap.size ≤ gl ∧ L + 3 ≤ cap ∧ LentO w' gl cap X ∧ Below W.heap.size W w' by
    have hXl := HX.out.1
    have hXc := HX.out.2.1
    have hLb := HX.out.2.2
    rw [← hXl] at hXc hLb ⊢
    exact lentO_calls A c X W (Kd.C_below hXc HDk.out.bel) (by omega))
  go_wp2_with (fail)
  refine HLt.out.mono ?_
  rintro e wl ⟨gl, cap, rfl, hgl, hcap, hlo, hb⟩
  have HLo := Lib.hid hlo
  have HGl := Lib.hid (show gl < wl.heap.size by obtain ⟨cs, h1, _⟩ := hlo.row; exact blk_lt h1)
  have HLc := Lib.hid (And.intro hgl hcap)
  have HBl := Lib.hid hb
  clear hgl hcap hlo hb
  have HOl := Lib.hid (blk_below HO.out HBl.out)
  have HDl := Lib.hid ((HD0.out.bound.mono (ok' := fun k => k < w.heap.size) (fun _ hk => hk.2)).below (below_then HB.out HB.out.size HBl.out))
  have HRl := Lib.hid ((HRr.out.bound.mono (ok' := fun k => k < w.heap.size) (fun _ hk => hk.2)).below (below_then HB.out HB.out.size HBl.out))
  have HKl := Lib.hid (And.intro (HK0.out.1.then_ (Kept8.of_below HBl.out)) (HK0.out.2.then_ (KeptT.of_below HBl.out)))
  have HAp := Lib.hid (show Calls Try.prog 11 #[.pointer (some ⟨b, 0, none⟩), .int .i64 f, .slice (some ⟨gl, 0, none⟩) L cap] wl (ToldM w0 wl (fun k => k < w.heap.size) F b a' (n + 1) z) by
    have hXl := HX.out.1
    have hc := HLc.out.2
    have hLb := HX.out.2.2
    rw [← hXl] at hc hLb ⊢
    exact HDl.out.append HF0.out f _ X cap HE.out hn12 HLo.out.lent.reads (by omega) hLb)
  have c2_wl : wl.cell? ⟨g + 1, 2, none⟩ = some (.int .i64 f) := (blk_cell HOl.out 2).trans rfl
  go_wp2_with (fail)
  refine HAp.out.mono ?_
  rintro e w1 ⟨rfl, F1, hD, hb, hrr, hk, hsz, hkt⟩
  have HD1 := Lib.hid hD
  have HF1 := Lib.hid hb
  have HN1 := Lib.hid hrr
  have HK1 := Lib.hid (And.intro (HKl.out.1.then_ hk) (HKl.out.2.then_ hkt))
  have HR1 := Lib.hid (HRl.out.kept hk hkt)
  have HDx1 := Lib.hid (hkt _ _ _ (by decide) (by decide) (blk_below HDx.out HBl.out))
  have HO1 := Lib.hid (hkt _ _ _ (by decide) (by decide) HOl.out)
  have HZ1 := Lib.hid (hkt _ _ _ (by decide) (by decide) (blk_below HZ.out HBl.out))
  have HS1 := Lib.hid (And.intro (Nat.le_trans HSz.out HBl.out.size) hsz)
  have HLo1 := Lib.hid (LentO.mk (hk _ _ _ _ HLo.out.own))
  clear hD hb hrr hk hsz hkt
  have c2_w1 : w1.cell? ⟨g + 1, 2, none⟩ = some (.int .i64 f) := (blk_cell HO1.out 2).trans rfl
  have c3_w1 : w1.cell? ⟨g + 1, 3, none⟩ = some (.slice A L c) := (blk_cell HO1.out 3).trans rfl
  have HDoc := Lib.hid (show Calls Try.prog 40 #[.agg r.cells, .int .i64 f, .slice A L c] w1 (PostD (n + 1) w1 (fun k => k < w.heap.size) (a', z)) by
    have hXl := HX.out.1
    have hXc := HX.out.2.1
    have hLb := HX.out.2.2
    rw [← HE.out]
    rw [← hXl] at hXc hLb ⊢
    exact appendR_calls HR1.out (by omega) HGd.out hn12 f A X c (Kd.C_below hXc HD1.out.bel) hLb)
  go_wp2_with (first | (refine wl_load 53 (.tmp 4) rfl rfl _ _ rfl (rd_ld HDx1.out) ?_) | fail)
  refine HDoc.out.mono ?_
  rintro e w2 ⟨q, rfl, hq, hb⟩
  have HQ2 := Lib.hid hq
  have HO2 := Lib.hid (blk_below HO1.out hb)
  have HZ2 := Lib.hid (blk_below HZ1.out hb)
  have HB2 := Lib.hid hb
  clear hq hb
  go_upto_region 6 with (first | (refine wl_store (old := rz) (cells := q.cells) 53 (.tmp 10) (.tmp 55) rfl rfl rfl rfl (blk_new w2 RZ) infoRd rfl (by simp [Value.oneCell', RD.cells]) ?_) | fail)
  have HT := Lib.hid (setRow_heap (w2.alloc RZ) w2.heap.size rz q.cells _ _ (blk_new w2 RZ))
  have HB3 := Lib.hid (below_setRow (below_alloc (Below.refl w2.heap.size w2) RZ) (Nat.le_refl _) q.cells)
  have HZ3 := Lib.hid (blk_below HZ2.out HB3.out)
  have HO3 := Lib.hid (blk_below HO2.out HB3.out)
  unfold RZ rz at HT HB3 HZ3 HO3
  generalize (w2.alloc _).setRow w2.heap.size q.cells = W3 at HT HB3 HZ3 HO3 ⊢
  obtain ⟨gt, hgt⟩ : ∃ x, x = w2.heap.size := ⟨_, rfl⟩
  rw [← hgt] at HT ⊢
  have HGt := Lib.hid hgt
  clear hgt
  have HB13 := Lib.hid (below_then HB2.out HB2.out.size HB3.out)
  have HLo3 := Lib.hid (LentO.mk (Kd.R_below HLo1.out.own HB13.out))
  have HKc := Lib.hid (show Calls Try.prog 41 #[.slice (some ⟨gl, 0, none⟩) L cap, .slice A L c] W3 fun e w' => e = .returned (.bool true) ∧ Drawn0 W3 w' by
    have hXl := HX.out.1
    have hXc := HX.out.2.1
    have hLb := HX.out.2.2
    rw [← hXl] at hXc hLb ⊢
    exact kept_eq ⟨gl, 0, none⟩ cap A c X W3 HLo3.out.lent (Kd.C_below hXc (HD1.out.below HB13.out).bel) (by omega))
  have f1 : (z == z) = true := by simp
  have c3_W3 : W3.cell? ⟨g + 1, 3, none⟩ = some (.slice A L c) := (blk_cell HO3.out 3).trans rfl
  go_wp2_with (fail)
  refine HKc.out.mono ?_
  rintro e w4 ⟨rfl, hd⟩
  have HB14 := Lib.hid (below_then HB13.out HB13.out.size hd.below)
  have HT4 := Lib.hid (blk_below HT.out hd.below)
  have HZ4 := Lib.hid (blk_below HZ3.out hd.below)
  have HLo4 := Lib.hid (LentO.mk (Kd.R_below HLo3.out.own hd.below))
  have HQ4 := Lib.hid ((HQ2.out.below HB3.out).below hd.below)
  clear hd
  obtain ⟨cs, hcs, hcl⟩ := HLo4.out.row
  rw [HX.out.1] at hcl
  have HOv := Lib.hid (over_calls hcs hcl HLc.out.2 HX.out.2.2)
  have HCs := Lib.hid hcs
  clear hcs hcl
  go_wp2_with (fail)
  refine HOv.out.mono ?_
  rintro e w5 ⟨rfl, hg⟩
  have HGr := Lib.hid hg
  have HNe := Lib.hid (show gl < gt ∧ g + 1 + 1 < gl ∧ w.heap.size ≤ gl by have h1 := HGl.out; have h2 := HGt.out; have h3 := HS1.out.2; have h4 := HB2.out.size; have h5 := blk_lt HZ.out; have h6 := HLc.out.1; have h7 := HSz.out; omega)
  have HT5 := Lib.hid ((hg.block gt (blk_lt HT4.out) (fun e => by injection e with e; have := HNe.out; omega)).trans HT4.out)
  have HZ5 := Lib.hid ((hg.block (g + 1 + 1) (blk_lt HZ4.out) (fun e => by injection e with e; have := HNe.out; omega)).trans HZ4.out)
  clear hg
  go_wp2_with (first | (refine wl_load 53 (.tmp 10) rfl rfl _ _ rfl (rd_ld HT5.out) ?_) | (refine wl_store (old := rz) (cells := q.cells) 53 (.tmp 6) (.tmp 68) rfl rfl rfl rfl HZ5.out infoRd rfl (by simp [Value.oneCell', RD.cells]) ?_) | fail)
  refine bodyPost_ret (results_ct rfl _ _ (g + 1 + 1) 53 q.cells (0, 0) _ rfl (setRow_heap _ _ _ _ _ _ HZ5.out) Try.underlying53 rfl infoRd) rfl ?_
  have hS4 : w.heap.size ≤ w4.heap.size := Nat.le_trans (Nat.le_trans HS1.out.1 HS1.out.2) HB14.out.size
  have hd4 := HD1.out.below HB14.out
  have hfr := Fr.of_grown HGr.out
  have hbel : Below w0.heap.size w0 w5 := hd4.bel.trans (hfr.below hd4.bel.size (fun k hk => by injection hk with hk; have := HNe.out; have := HS0.out; omega))
  have hd5 := (hd4.fr hfr hbel (fun k hk => by injection hk with hk; subst hk; exact ⟨cs, HCs.out⟩) (fun k hk hx => by injection hx with hx; have := HNe.out; have := HGl.out; omega)).mono (ok' := fun _ => True) (fun _ _ => trivial)
  have hr5 := (HQ4.out.grown HGr.out (fun k hk e => by have := HNe.out; have := HGl.out; have := HS1.out.2; omega)).mono (ok' := fun _ => True) (fun _ _ => trivial)
  exact did_end HS0.out ⟨kept8_new (HK1.out.1.then_ (Kept8.of_below HB14.out)) HGr.out HNe.out.2.2, keptT_new (HK1.out.2.then_ (KeptT.of_below HB14.out)) HGr.out HNe.out.2.2⟩ (Nat.le_trans hS4 HGr.out.size) hd5 HF1.out HN1.out hr5 HZ5.out (by have := HG.out; omega)
def law_does.T22 : Bool × List (List Nat × List Nat) := (true, [([], []), ([], []), ([], []), ([1, 2], [1, 2]), ([3], [3]), ([4], [4]), ([4], [4]), ([5, 6, 4], [4, 5, 6]), ([4, 7], [4, 7]), ([8, 4], [8]), ([9], [9]), ([9], [9]), ([10, 11, 9, 9], [9, 10, 11]), ([9, 12], [9, 12]), ([13, 12], [13]), ([14], [14]), ([14], [14]), ([15, 16, 14, 14], [14, 15, 16]), ([14, 17], [14, 17]), ([0, 17, 0], [0]), ([18, 19, 0, 1, 2, 3, 4, 5, 6, 7, 8, 9, 10, 11, 12, 13, 14, 15, 16, 17, 18, 19], [18])])
def law_does.B22 : List Nat := [0, 0, 0, 6, 14, 30, 30, 126, 254, 510, 1022, 1022, 4094, 8190, 16382, 32766, 32766, 131070, 262142, 262143, 1048575]
theorem law_does.tab22 : rtab .any (opsOf Try.f28 22) = law_does.T22 := by kernel_rfl
theorem law_does.bits22 : waitsOk law_does.T22.2 law_does.B22 = true := by kernel_rfl
set_option maxRecDepth 100000 in
set_option maxHeartbeats 8000000 in
theorem does_read {w0 w : World} {F : Nat → Option ADk} {b n : Nat} {a : ADk} {r : RD} (h : Disks w0 w (fun _ => True) F n) (hF : F b = some a) (hr : DR n (fun _ => True) w r a) (hn : n ≤ 1000) (on f N x torn : Int) (A : Option Addr) (L c : Nat) :
    Calls Try.prog 28 #[.pointer (some ⟨b, 0, none⟩), .agg r.cells, .agg #[.int .i64 4, .int .i64 on, .int .i64 f, .slice A L c, .int .i64 N, .int .i64 x, .int .i64 torn]] w (Did w0 w F b n) := by
  have HD0 := Lib.hid h
  have HF0 := Lib.hid hF
  have HRr := Lib.hid hr
  have HGd := Lib.hid (h.good hF)
  have HS0 := Lib.hid h.bel.size
  have hn12 : n ≤ 1099511627776 := by omega
  clear h hF hr
  go_enter Try.func28, Try.ntmps28
  go_upto_region 1 with (fail)
  have HDx := Lib.hid (blk_alloc (blk_alloc (blk_new w (.cells r.cells 53)) (.cells #[.int .i64 4, .int .i64 on, .int .i64 f, .slice A L c, .int .i64 N, .int .i64 x, .int .i64 torn] 57)) RZ)
  have HO : Hid ((((w.alloc (.cells r.cells 53)).alloc (.cells #[.int .i64 4, .int .i64 on, .int .i64 f, .slice A L c, .int .i64 N, .int .i64 x, .int .i64 torn] 57)).alloc RZ).heap[w.heap.size + 1]? = some (.cells #[.int .i64 4, .int .i64 on, .int .i64 f, .slice A L c, .int .i64 N, .int .i64 x, .int .i64 torn] 57 (0, 0))) := Lib.hid (by rw [← World.size_alloc w (.cells r.cells 53)]; exact blk_alloc (blk_new _ _) _)
  have HZ : Hid ((((w.alloc (.cells r.cells 53)).alloc (.cells #[.int .i64 4, .int .i64 on, .int .i64 f, .slice A L c, .int .i64 N, .int .i64 x, .int .i64 torn] 57)).alloc RZ).heap[w.heap.size + 1 + 1]? = some (.cells rz 53 (0, 0))) := Lib.hid (by
    have e : ∀ x y : Obj, ((w.alloc x).alloc y).heap.size = w.heap.size + 1 + 1 := fun x y => by simp only [World.size_alloc]
    rw [← e]
    exact blk_new _ _)
  have HB := Lib.hid (below_alloc (below_alloc (below_alloc (Below.refl w.heap.size w) (.cells r.cells 53)) (.cells #[.int .i64 4, .int .i64 on, .int .i64 f, .slice A L c, .int .i64 N, .int .i64 x, .int .i64 torn] 57)) RZ)
  unfold RZ rz at HDx HO HZ HB
  generalize ((w.alloc (.cells r.cells 53)).alloc (.cells #[.int .i64 4, .int .i64 on, .int .i64 f, .slice A L c, .int .i64 N, .int .i64 x, .int .i64 torn] 57)).alloc _ = W at HDx HO HZ HB ⊢
  obtain ⟨g, hg⟩ : ∃ g, g = w.heap.size := ⟨_, rfl⟩
  rw [← hg] at HDx HO HZ ⊢
  have HG := Lib.hid hg
  clear hg
  have HDk := Lib.hid (HD0.out.below HB.out)
  have HR0 := Lib.hid (HRr.out.below HB.out)
  have HK0 := Lib.hid (And.intro (Kept8.of_below HB.out) (KeptT.of_below HB.out))
  have HSz := Lib.hid HB.out.size
  obtain ⟨p1, hp1⟩ : ∃ p, p = a.read f := ⟨_, rfl⟩
  obtain ⟨x1, z1⟩ := p1
  have HE1 := Lib.hid hp1.symm
  obtain ⟨p2, hp2⟩ : ∃ p, p = a.durable f := ⟨_, rfl⟩
  obtain ⟨x2, z2⟩ := p2
  have HE2 := Lib.hid hp2.symm
  clear hp1 hp2
  obtain ⟨n1, hn1⟩ : ∃ k, x1.length = k := ⟨_, rfl⟩
  obtain ⟨n2, hn2⟩ : ∃ k, x2.length = k := ⟨_, rfl⟩
  have HL1 := Lib.hid hn1
  have HL2 := Lib.hid hn2
  clear hn1 hn2
  have c0_W : W.cell? ⟨g + 1, 0, none⟩ = some (.int .i64 4) := (blk_cell HO.out 0).trans rfl
  have c2_W : W.cell? ⟨g + 1, 2, none⟩ = some (.int .i64 f) := (blk_cell HO.out 2).trans rfl
  have HBW0 := Lib.hid (Below.refl W.heap.size W)
  go_wp2_with (fail)
  refine (HDk.out.read HF0.out f HE1.out hn12).mono ?_
  rintro e w1 hp
  obtain ⟨A1, c1, rfl, hc, hb⟩ := hp.lenC HL1.out
  clear hp
  have HC1 := Lib.hid hc
  have HBW1 := Lib.hid hb
  clear hc hb
  have HDx1 := Lib.hid (blk_below HDx.out HBW1.out)
  have HO1 := Lib.hid (blk_below HO.out HBW1.out)
  have HD1 := Lib.hid (HDk.out.below HBW1.out)
  have HDoc1 := Lib.hid (show Calls Try.prog _ _ w1 (PostB w1 (fun _ => True) x1 z1) by have := readR_calls (HR0.out.below HBW1.out) HGd.out hn12 f; rw [HE1.out] at this; exact this)
  have c2_w1 : w1.cell? ⟨g + 1, 2, none⟩ = some (.int .i64 f) := (blk_cell HO1.out 2).trans rfl
  go_wp2_with (first | (refine wl_load 53 (.tmp 4) rfl rfl _ _ rfl (rd_ld HDx1.out) ?_) | fail)
  refine HDoc1.out.mono ?_
  rintro e w2 hp
  obtain ⟨A2, c2, rfl, hc, hb⟩ := hp.len HL1.out
  clear hp
  have HC2 := Lib.hid hc
  have HC1b := Lib.hid (Kd.C_below HC1.out hb)
  have HBW2 := Lib.hid (below_then HBW1.out HBW1.out.size hb)
  clear hc hb
  have HO2 := Lib.hid (blk_below HO.out HBW2.out)
  have HD2 := Lib.hid (HDk.out.below HBW2.out)
  have c2_w2 : w2.cell? ⟨g + 1, 2, none⟩ = some (.int .i64 f) := (blk_cell HO2.out 2).trans rfl
  go_wp2_with (fail)
  refine (HD2.out.durable HF0.out f HE2.out).mono ?_
  rintro e w3 hp
  obtain ⟨A3, c3, rfl, hc, hb⟩ := hp.lenC HL2.out
  clear hp
  have HC3 := Lib.hid hc
  have HC1c := Lib.hid (Kd.C_below HC1b.out hb)
  have HC2c := Lib.hid (Kd.C_below HC2.out hb)
  have HBW3 := Lib.hid (below_then HBW2.out HBW2.out.size hb)
  clear hc hb
  have HDx3 := Lib.hid (blk_below HDx.out HBW3.out)
  have HO3 := Lib.hid (blk_below HO.out HBW3.out)
  have HDoc3 := Lib.hid (show Calls Try.prog _ _ w3 (PostB w3 (fun _ => True) x2 z2) by have := durableR_calls (HR0.out.below HBW3.out) f; rw [HE2.out] at this; exact this)
  have c2_w3 : w3.cell? ⟨g + 1, 2, none⟩ = some (.int .i64 f) := (blk_cell HO3.out 2).trans rfl
  go_wp2_with (first | (refine wl_load 53 (.tmp 4) rfl rfl _ _ rfl (rd_ld HDx3.out) ?_) | fail)
  refine HDoc3.out.mono ?_
  rintro e w4 hp
  obtain ⟨A4, c4, rfl, hc, hb⟩ := hp.len HL2.out
  clear hp
  have HC4 := Lib.hid hc
  have HC1d := Lib.hid (Kd.C_below HC1c.out hb)
  have HC2d := Lib.hid (Kd.C_below HC2c.out hb)
  have HC3d := Lib.hid (Kd.C_below HC3.out hb)
  have HBW4 := Lib.hid (below_then HBW3.out HBW3.out.size hb)
  clear hc hb
  go_upto_region 22 with (fail)
  have HSm := Lib.hid (fun W5 (hb : Below w4.heap.size w4 W5) => And.intro (same_eq A1 c1 x1 n1 HL1.out A2 c2 W5 (Kd.C_below HC1d.out hb) (Kd.C_below HC2d.out hb)) (same_eq A3 c3 x2 n2 HL2.out A4 c4 W5 (Kd.C_below HC3d.out hb) (Kd.C_below HC4.out hb)))
  have HDx4 := Lib.hid (blk_below HDx.out HBW4.out)
  have HZ4 := Lib.hid (blk_below HZ.out HBW4.out)
  have HBd := Lib.hid (Below.refl w4.heap.size w4).drew
  have HRd := Lib.hid (rd_ld (blk_drew HDx4.out))
  have f1 : (z1 == z1) = true := by simp
  have f2 : (z2 == z2) = true := by simp
  refine start_ (n := 21) (S := fun w' => (Instr.loadAt 53 (.pointer (some ⟨g, 0, none⟩))).run Try.prog w' = .ok (.agg r.cells) w') (ds := [19]) #[false, false, false, false, false, false, false, false, false, false, false, false, false, false, false, false, false, false, false, false, false] (by kernel_rfl) rfl rfl (HRd.out) (fun hHeld => ?_)
  refine with_tabW law_does.tab22 law_does.bits22 (fun HT_ HW_ => ?_)
  refine pure_ (i := 1) (N := some 135) (v := ?_) (a' := ?_) #[false, true, false, false, false, false, false, false, false, false, false, false, false, false, false, false, false, false, false, false, false] rfl rfl (any_of HT_.out (by kernel_rfl)) (fun _ _ _ h => h) (Or.inl ⟨by rfl, ?_⟩) ?_ ?_
  rotate_left
  · intro w'
    go_simp
    with_reducible rfl
  rotate_left
  · simp only [Act.put, List.setIfInBounds_toArray, List.set_cons_zero, List.set_cons_succ, i64_w, i32_w]
    rfl
  refine pure_ (i := 2) (N := some 136) (v := ?_) (a' := ?_) #[false, true, true, false, false, false, false, false, false, false, false, false, false, false, false, false, false, false, false, false, false] rfl rfl (any_of HT_.out (by kernel_rfl)) (fun _ _ _ h => h) (Or.inl ⟨by rfl, ?_⟩) ?_ ?_
  rotate_left
  · intro w'
    go_simp
    with_reducible rfl
  rotate_left
  · simp only [Act.put, List.setIfInBounds_toArray, List.set_cons_zero, List.set_cons_succ, i64_w, i32_w]
    rfl
  refine pure_ (i := 3) (N := some 137) (v := ?_) (a' := ?_) #[false, true, true, true, false, false, false, false, false, false, false, false, false, false, false, false, false, false, false, false, false] rfl rfl (any_of HT_.out (by kernel_rfl)) (fun _ _ _ h => h) (Or.inl ⟨by rfl, ?_⟩) ?_ ?_
  rotate_left
  · intro w'
    go_simp
    with_reducible rfl
  rotate_left
  · simp only [Act.put, List.setIfInBounds_toArray, List.set_cons_zero, List.set_cons_succ, i64_w, i32_w]
    rfl
  refine pure_ (i := 4) (N := some 138) (v := ?_) (a' := ?_) #[false, true, true, true, true, false, false, false, false, false, false, false, false, false, false, false, false, false, false, false, false] rfl rfl (any_of HT_.out (by kernel_rfl)) (fun _ _ _ h => h) (Or.inl ⟨by rfl, ?_⟩) ?_ ?_
  rotate_left
  · intro w'
    go_simp
    with_reducible rfl
  rotate_left
  · simp only [Act.put, List.setIfInBounds_toArray, List.set_cons_zero, List.set_cons_succ, i64_w, i32_w]
    rfl
  refine pure_ (i := 5) (N := some 139) (v := ?_) (a' := ?_) #[false, true, true, true, true, true, false, false, false, false, false, false, false, false, false, false, false, false, false, false, false] rfl rfl (any_of HT_.out (by kernel_rfl)) (fun _ _ _ h => h) (Or.inl ⟨by rfl, ?_⟩) ?_ ?_
  rotate_left
  · intro w'
    go_simp
    with_reducible rfl
  rotate_left
  · simp only [Act.put, List.setIfInBounds_toArray, List.set_cons_zero, List.set_cons_succ, i64_w, i32_w]
    rfl
  refine pure_ (i := 6) (N := some 140) (v := ?_) (a' := ?_) #[false, true, true, true, true, true, true, false, false, false, false, false, false, false, false, false, false, false, false, false, false] rfl rfl (any_of HT_.out (by kernel_rfl)) (fun _ _ _ h => h) (Or.inl ⟨by rfl, ?_⟩) ?_ ?_
  rotate_left
  · intro w'
    go_simp
    with_reducible rfl
  rotate_left
  · simp only [Act.put, List.setIfInBounds_toArray, List.set_cons_zero, List.set_cons_succ, i64_w, i32_w]
    rfl
  refine pure_ (i := 7) (N := some 141) (v := ?_) (a' := ?_) #[false, true, true, true, true, true, true, true, false, false, false, false, false, false, false, false, false, false, false, false, false] rfl rfl (any_of HT_.out (by kernel_rfl)) (fun _ _ _ h => h) (Or.inl ⟨by rfl, ?_⟩) ?_ ?_
  rotate_left
  · intro w'
    go_simp
    with_reducible rfl
  rotate_left
  · simp only [Act.put, List.setIfInBounds_toArray, List.set_cons_zero, List.set_cons_succ, i64_w, i32_w]
    rfl
  refine pure_ (i := 8) (N := some 142) (v := ?_) (a' := ?_) #[false, true, true, true, true, true, true, true, true, false, false, false, false, false, false, false, false, false, false, false, false] rfl rfl (any_of HT_.out (by kernel_rfl)) (fun _ _ _ h => h) (Or.inl ⟨by rfl, ?_⟩) ?_ ?_
  rotate_left
  · intro w'
    go_simp
    with_reducible rfl
  rotate_left
  · simp only [Act.put, List.setIfInBounds_toArray, List.set_cons_zero, List.set_cons_succ, i64_w, i32_w]
    rfl
  refine pure_ (i := 9) (N := some 143) (v := ?_) (a' := ?_) #[false, true, true, true, true, true, true, true, true, true, false, false, false, false, false, false, false, false, false, false, false] rfl rfl (any_of HT_.out (by kernel_rfl)) (fun _ _ _ h => h) (Or.inl ⟨by rfl, ?_⟩) ?_ ?_
  rotate_left
  · intro w'
    go_simp
    with_reducible rfl
  rotate_left
  · simp only [Act.put, List.setIfInBounds_toArray, List.set_cons_zero, List.set_cons_succ, i64_w, i32_w]
    rfl
  refine pure_ (i := 10) (N := some 144) (v := ?_) (a' := ?_) #[false, true, true, true, true, true, true, true, true, true, true, false, false, false, false, false, false, false, false, false, false] rfl rfl (any_of HT_.out (by kernel_rfl)) (fun _ _ _ h => h) (Or.inl ⟨by rfl, ?_⟩) ?_ ?_
  rotate_left
  · intro w'
    go_simp
    with_reducible rfl
  rotate_left
  · simp only [Act.put, List.setIfInBounds_toArray, List.set_cons_zero, List.set_cons_succ, i64_w, i32_w]
    rfl
  refine pure_ (i := 11) (N := some 145) (v := ?_) (a' := ?_) #[false, true, true, true, true, true, true, true, true, true, true, true, false, false, false, false, false, false, false, false, false] rfl rfl (any_of HT_.out (by kernel_rfl)) (fun _ _ _ h => h) (Or.inl ⟨by rfl, ?_⟩) ?_ ?_
  rotate_left
  · intro w'
    go_simp
    with_reducible rfl
  rotate_left
  · simp only [Act.put, List.setIfInBounds_toArray, List.set_cons_zero, List.set_cons_succ, i64_w, i32_w]
    rfl
  refine take_ (i := 0) (N := some 134) (v := ?_) (a' := ?_) #[true, true, true, true, true, true, true, true, true, true, true, true, false, false, false, false, false, false, false, false, false] rfl rfl (take_ofW HT_.out HW_.out (by kernel_rfl)) (fun _ _ _ h => h) (Or.inl ⟨by rfl, ?_⟩) hHeld ?_ ?_
  rotate_left
  · intro w' s0
    refine Eq.trans (exec_load (by rfl) (by rfl) s0) ?_
    with_reducible rfl
  rotate_left
  · simp only [Act.put, List.setIfInBounds_toArray, List.set_cons_zero, List.set_cons_succ, i64_w, i32_w]
    rfl
  refine one_ (i := 12) (N := some 146) #[true, true, true, true, true, true, true, true, true, true, true, true, true, false, false, false, false, false, false, false, false] rfl rfl (one_of HT_.out (by kernel_rfl)) (by decide) (fun K hK => ?_)
  refine goes_ Try.func15 (by kernel_rfl) rfl #[.slice A1 n1 c1, .slice A2 n1 c2] (by rfl) rfl rfl (by simp only [List.map_toArray, List.map_cons, List.map_nil]; rfl) ?_
  with_reducible refine ((HSm.out _ HBd.out).1).mono ?_
  rintro e v5 ⟨rfl, hd⟩
  refine ⟨_, rfl, ?_⟩
  replace HBd := Lib.hid (below_then HBd.out HBd.out.size hd.below)
  clear hd
  refine hK.out _ _ (rd_ld (blk_below HDx4.out HBd.out)) (fun hHeld => ?_)
  clear hK K
  refine norm_ (a' := ?_) ?_ ?_
  rotate_left
  · show Act.put _ (some 146) _ = _
    simp only [Act.put, List.setIfInBounds_toArray, List.set_cons_zero, List.set_cons_succ, i64_w, i32_w]
    rfl
  refine pure_ (i := 13) (N := some 147) (v := ?_) (a' := ?_) #[true, true, true, true, true, true, true, true, true, true, true, true, true, true, false, false, false, false, false, false, false] rfl rfl (any_of HT_.out (by kernel_rfl)) (fun _ _ _ h => h) (Or.inl ⟨by rfl, ?_⟩) ?_ ?_
  rotate_left
  · intro w'
    go_simp
    with_reducible rfl
  rotate_left
  · simp only [Act.put, List.setIfInBounds_toArray, List.set_cons_zero, List.set_cons_succ, i64_w, i32_w]
    rfl
  refine pure_ (i := 14) (N := some 148) (v := ?_) (a' := ?_) #[true, true, true, true, true, true, true, true, true, true, true, true, true, true, true, false, false, false, false, false, false] rfl rfl (any_of HT_.out (by kernel_rfl)) (fun _ _ _ h => h) (Or.inl ⟨by rfl, ?_⟩) ?_ ?_
  rotate_left
  · intro w'
    go_simp
    with_reducible rfl
  rotate_left
  · simp only [Act.put, List.setIfInBounds_toArray, List.set_cons_zero, List.set_cons_succ, i64_w, i32_w]
    rfl
  refine pure_ (i := 15) (N := some 149) (v := ?_) (a' := ?_) #[true, true, true, true, true, true, true, true, true, true, true, true, true, true, true, true, false, false, false, false, false] rfl rfl (any_of HT_.out (by kernel_rfl)) (fun _ _ _ h => h) (Or.inl ⟨by rfl, ?_⟩) ?_ ?_
  rotate_left
  · intro w'
    go_simp
    with_reducible rfl
  rotate_left
  · simp only [Act.put, List.setIfInBounds_toArray, List.set_cons_zero, List.set_cons_succ, i64_w, i32_w]
    rfl
  refine pure_ (i := 16) (N := some 150) (v := ?_) (a' := ?_) #[true, true, true, true, true, true, true, true, true, true, true, true, true, true, true, true, true, false, false, false, false] rfl rfl (any_of HT_.out (by kernel_rfl)) (fun _ _ _ h => h) (Or.inl ⟨by rfl, ?_⟩) ?_ ?_
  rotate_left
  · intro w'
    go_simp
    with_reducible rfl
  rotate_left
  · simp only [Act.put, List.setIfInBounds_toArray, List.set_cons_zero, List.set_cons_succ, i64_w, i32_w]
    rfl
  refine one_ (i := 17) (N := some 151) #[true, true, true, true, true, true, true, true, true, true, true, true, true, true, true, true, true, true, false, false, false] rfl rfl (one_of HT_.out (by kernel_rfl)) (by decide) (fun K hK => ?_)
  refine goes_ Try.func15 (by kernel_rfl) rfl #[.slice A3 n2 c3, .slice A4 n2 c4] (by rfl) rfl rfl (by simp only [List.map_toArray, List.map_cons, List.map_nil]; rfl) ?_
  with_reducible refine ((HSm.out _ HBd.out).2).mono ?_
  rintro e v6 ⟨rfl, hd⟩
  refine ⟨_, rfl, ?_⟩
  replace HBd := Lib.hid (below_then HBd.out HBd.out.size hd.below)
  clear hd
  refine hK.out _ _ (rd_ld (blk_below HDx4.out HBd.out)) (fun hHeld => ?_)
  clear hK K
  refine norm_ (a' := ?_) ?_ ?_
  rotate_left
  · show Act.put _ (some 151) _ = _
    simp only [Act.put, List.setIfInBounds_toArray, List.set_cons_zero, List.set_cons_succ, i64_w, i32_w]
    rfl
  refine pure_ (i := 18) (N := some 152) (v := ?_) (a' := ?_) #[true, true, true, true, true, true, true, true, true, true, true, true, true, true, true, true, true, true, true, false, false] rfl rfl (any_of HT_.out (by kernel_rfl)) (fun _ _ _ h => h) (Or.inl ⟨by rfl, ?_⟩) ?_ ?_
  rotate_left
  · intro w'
    go_simp
    with_reducible rfl
  rotate_left
  · simp only [Act.put, List.setIfInBounds_toArray, List.set_cons_zero, List.set_cons_succ, i64_w, i32_w]
    rfl
  refine last_ (i := 19) (N := none) #[true, true, true, true, true, true, true, true, true, true, true, true, true, true, true, true, true, true, true, true, false] rfl rfl (one_of HT_.out (by kernel_rfl)) (by decide) (fun K hK => ?_)
  refine skip_ (w1 := ?_) (by rfl) rfl ?_ ?_
  rotate_left
  · refine exec_store (t := 53) (p := .tmp 6) (v := .tmp 134) (g := g + 1 + 1) (old := rz) (cells := r.cells) ?_ ?_ ?_ (blk_below HZ4.out HBd.out) infoRd rfl (by simp [Value.oneCell', RD.cells])
    all_goals rfl
  refine hK.out _ _ ?_
  clear hK K
  refine pure_ (i := 20) (N := some 7) (v := ?_) (a' := ?_) #[true, true, true, true, true, true, true, true, true, true, true, true, true, true, true, true, true, true, true, true, true] rfl rfl (any_of HT_.out (by kernel_rfl)) (fun _ _ _ h => h) (Or.inl ⟨by rfl, ?_⟩) ?_ ?_
  rotate_left
  · intro w'
    go_simp
    with_reducible rfl
  rotate_left
  · simp only [Act.put, List.setIfInBounds_toArray, List.set_cons_zero, List.set_cons_succ, i64_w, i32_w]
    rfl
  refine done_ (done_of HT_.out (by kernel_rfl)) ?_
  
  go_wp2
  have HZ6 := Lib.hid (blk_below HZ4.out HBd.out)
  have HB6 := HBd
  refine bodyPost_ret (results_ct rfl _ _ (g + 1 + 1) 53 r.cells (0, 0) _ rfl (setRow_heap _ _ _ _ _ _ HZ6.out) Try.underlying53 rfl infoRd) rfl ?_
  have hb6 := below_then HBW4.out HBW4.out.size HB6.out
  exact did_end HS0.out ⟨HK0.out.1.then_ (Kept8.of_below hb6), HK0.out.2.then_ (KeptT.of_below hb6)⟩ (Nat.le_trans HSz.out hb6.size) ((HDk.out.below hb6).le (Nat.le_succ n)) HF0.out (fun _ _ => rfl) ((HR0.out.below hb6).le (Nat.le_succ n)) HZ6.out (by have := HG.out; omega)
end Go.Proofs.Ytfggcdpipolahaa.PF
