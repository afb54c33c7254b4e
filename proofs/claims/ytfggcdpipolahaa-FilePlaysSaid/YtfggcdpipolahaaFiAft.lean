/- The document's files behind a crash (After). -/
import Derived.Test.YtfggcdpipolahaaFiRefC
set_option linter.unusedVariables false
set_option linter.unusedSimpArgs false
namespace Go.Proofs.Ytfggcdpipolahaa.PF
open Go.RowKit Go.Proofs.YtfggcdpipolahaaW.PrintWords Go.Proofs.YtfggcdpipolahaaW.PrintLast Go.Proofs.YtfggcdpipolahaaW.PrintMore
attribute [local go_sem] max2_int min2_int max_two min_two
theorem infoRop : (Try.prog.info? 99).map (·.size) = some 4 := by kernel_rfl
theorem info3b : (Try.prog.info? 50).map (·.size) = some 3 := by kernel_rfl
/-- The document's disk in memory: its files and its operations. -/
structure RM (ok : Nat → Prop) (w : World) (r : RD) (rs : List Rop) (x : Fs) (os : List AOp) : Prop where
  f : By3 ok w r.f x
  ops : Kd.R kOp 99 w 0 ok (.slice r.ops.1 r.ops.2.1 r.ops.2.2) rs
  rel : Rel ok w rs os
theorem RM.below {ok : Nat → Prop} {w w1 : World} {r : RD} {rs : List Rop} {x : Fs} {os : List AOp} (h : RM ok w r rs x os) (hb : Below w.heap.size w w1) : RM ok w1 r rs x os := ⟨h.f.map (fun _ _ g => g.below hb), Kd.R_below h.ops hb, h.rel.map (fun _ _ g => g.below hb)⟩
def S3.cells (s : S3) : Array Value := #[.slice s.a.1 s.a.2.1 s.a.2.2, .slice s.b.1 s.b.2.1 s.b.2.2, .slice s.c.1 s.c.2.1 s.c.2.2]
theorem s3_at (s : S3) {f : Nat} (hf : f < 3) : s.cells[f]? = some (.slice (s.get f).1 (s.get f).2.1 (s.get f).2.2) := by
  match f, hf with
  | 0, _ => rfl
  | 1, _ => rfl
  | 2, _ => rfl
theorem s3_set (s : S3) {f : Nat} (hf : f < 3) (t : Sl) : s.cells.setIfInBounds f (.slice t.1 t.2.1 t.2.2) = (s.set f t).cells := by
  match f, hf with
  | 0, _ => rfl
  | 1, _ => rfl
  | 2, _ => rfl
structure TI (w : World) (g3 g7 : Nat) (ok : Nat → Prop) (r : RD) (x : Fs) (os : List AOp) (K T : Nat) (R : Fs) (i : Nat) (y : Fs) (s : S3) (wr : World) : Prop where
  bel : Below w.heap.size w wr
  box : wr.heap[g3]? = some (.cells r.cells 53 (0, 0))
  res : wr.heap[g3 + 1]? = some (.cells #[.slice none 0 0, .slice none 0 0, .slice none 0 0] 50 (0, 0))
  l : wr.heap[g7]? = some (.cells s.cells 50 (0, 0))
  f : By3 (fun k => ok k ∨ w.heap.size ≤ k) wr s y
  go : (i ≤ K ∧ y.crash (os.drop i) (K - i) T = R ∧ Valid y (os.drop i)) ∨ (K < i ∧ y = R)
theorem rd_ld3 {w : World} {g : Nat} {r : RD} (h : w.heap[g]? = some (.cells r.cells 53 (0, 0))) : (Instr.loadAt 50 (.pointer (some ⟨g, 0, none⟩))).run Try.prog w = .ok (.agg r.f.cells) w := by
  refine (run_loadAt_mid (P := Try.prog) w g 0 50 [.slice r.f.a.1 r.f.a.2.1 r.f.a.2.2, .slice r.f.b.1 r.f.b.2.1 r.f.b.2.2, .slice r.f.c.1 r.f.c.2.1 r.f.c.2.2] _ ?_ Try.underlying50 rfl info3b)
  intro j v hv
  rw [Nat.zero_add]
  match j, hv with
  | 0, hv => exact (blk_cell h 0).trans hv
  | 1, hv => exact (blk_cell h 1).trans hv
  | 2, hv => exact (blk_cell h 2).trans hv
  | j + 3, hv => simp at hv
theorem s3_ld {w : World} {g : Nat} {s : S3} (h : w.heap[g]? = some (.cells s.cells 50 (0, 0))) : (Instr.loadAt 50 (.pointer (some ⟨g, 0, none⟩))).run Try.prog w = .ok (.agg s.cells) w := by
  have hld := run_loadVar_row (P := Try.prog) w g 50 50 s.cells (0, 0) _ h Try.underlying50 rfl info3b
  simp only [Instr.loadAt, Instr.sureAddr, Sem.run_bind, Sem.run_pure, Result.andThen_ok, hld]
theorem TI.put {w wr w5 : World} {g g7 : Nat} {ok : Nat → Prop} {r : RD} {x : Fs} {os : List AOp} {K T : Nat} {R : Fs} {i : Nat} {y : Fs} {s : S3} (h : TI w g g7 ok r x os K T R i y s wr) (hb : Below wr.heap.size wr w5) (h1 : g < g7) (h2 : g + 1 < g7) (h3 : w.heap.size ≤ g7) {f : Nat} (hf : f < 3) {t : Sl} {z : List Int} (ht : By (fun k => ok k ∨ w.heap.size ≤ k) w5 t z) (hgo : (i + 1 ≤ K ∧ (y.set f z).crash (os.drop (i + 1)) (K - (i + 1)) T = R ∧ Valid (y.set f z) (os.drop (i + 1))) ∨ (K < i + 1 ∧ y.set f z = R)) :
    TI w g g7 ok r x os K T R (i + 1) (y.set f z) (s.set f t) (w5.setCell ⟨g7, f, none⟩ (.slice t.1 t.2.1 t.2.2)) := by
  have hl := blk_below h.l hb
  refine ⟨(below_then h.bel h.bel.size hb).setCell h3 _, blk_far (blk_below h.box hb) (by show g ≠ g7; omega) _, blk_far (blk_below h.res hb) (by show g + 1 ≠ g7; omega) _, ?_, ?_, hgo⟩
  · have := blk_set hl f (.slice t.1 t.2.1 t.2.2)
    rw [s3_set s hf t] at this
    exact this
  · exact ((h.f.map (fun _ _ k => k.below hb)).set f ht).map (fun _ _ k => k.box hl (by decide) (grown_set f _))
theorem TI.lt {w wr : World} {g g7 : Nat} {ok : Nat → Prop} {r : RD} {x : Fs} {os : List AOp} {K T : Nat} {R : Fs} {i : Nat} {y : Fs} {s : S3} (h : TI w g g7 ok r x os K T R i y s wr) {o : AOp} (ho : os[i]? = some o) (hk : i ≤ K) : o.Ok y ∧ (i < K → Fs.crash (y.done o o.data.length) (os.drop (i + 1)) (K - (i + 1)) T = R ∧ Valid (y.done o o.data.length) (os.drop (i + 1))) ∧ (i = K → (if o.cut = true then y else y.done o T) = R) := by
  obtain ⟨hl, he⟩ := List.getElem?_eq_some_iff.1 ho
  rcases h.go with ⟨_, h2, h3⟩ | ⟨h1, _⟩
  · rw [List.drop_eq_getElem_cons hl, he] at h2 h3
    refine ⟨h3.1, fun hik => ?_, fun hik => ?_⟩
    · obtain ⟨m, hm⟩ : ∃ m, K - i = m + 1 := ⟨K - i - 1, by omega⟩
      rw [hm] at h2
      rw [show K - (i + 1) = m by omega]
      exact ⟨h2, h3.2⟩
    · rw [hik, Nat.sub_self] at h2
      exact h2
  · omega
def ref_After.T11 : Bool × List (List Nat × List Nat) := (true, [([], []), ([0], [0]), ([], []), ([2], [2]), ([3], [3]), ([4], [4]), ([], []), ([6], [6]), ([5, 7], [5, 7]), ([8], [8]), ([1, 0, 1, 2, 3, 4, 5, 6, 7, 8, 9], [1]), ([10, 9, 9, 0, 1, 2, 3, 4, 5, 6, 7, 8, 9], [9, 10])])
def ref_After.B11 : List Nat := [0, 1, 0, 4, 12, 28, 0, 64, 252, 508, 1023, 2047]
theorem ref_After.tab11 : rtab .any (opsOf Try.f58 11) = ref_After.T11 := by kernel_rfl
theorem ref_After.bits11 : waitsOk ref_After.T11.2 ref_After.B11 = true := by kernel_rfl
def ref_After.T12 : Bool × List (List Nat × List Nat) := (true, [([], []), ([0], [0]), ([], []), ([2], [2]), ([3], [3]), ([4], [4]), ([5], [5]), ([], []), ([6, 7, 6], [6, 7]), ([1, 0, 1, 2, 3, 4, 5, 6, 7, 8], [1]), ([9, 8, 8, 0, 1, 2, 3, 4, 5, 6, 7, 8], [8, 9])])
def ref_After.B12 : List Nat := [0, 1, 0, 4, 12, 28, 60, 0, 252, 511, 1023]
theorem ref_After.tab12 : rtab .any (opsOf Try.f58 12) = ref_After.T12 := by kernel_rfl
theorem ref_After.bits12 : waitsOk ref_After.T12.2 ref_After.B12 = true := by kernel_rfl
set_option maxRecDepth 100000 in
set_option maxHeartbeats 8000000 in
theorem after_calls {ok : Nat → Prop} {w : World} {r : RD} {rs : List Rop} {x : Fs} {os : List AOp} (h : RM ok w r rs x os) (hv : Valid x os) (hlen : os.length ≤ 1099511627776) (K T : Nat) (hK : K ≤ 9223372036854775807) :
    Calls Try.prog 58 #[.agg r.cells, .int .i64 K, .int .i64 T] w fun e w' => ∃ s : S3, e = .returned (.agg s.cells) ∧ By3 (fun k => ok k ∨ w.heap.size ≤ k) w' s (x.crash os K T) ∧ Below w.heap.size w w' := by
  obtain ⟨R, hR⟩ : ∃ R, R = x.crash os K T := ⟨_, rfl⟩
  rw [← hR]
  have HM := Lib.hid h
  have HV := Lib.hid (And.intro hR hv)
  have hr := Kd.R_reads' h.ops
  have HN := Lib.hid (show r.ops.2.1 = rs.length ∧ rs.length = os.length from ⟨hr.1, h.rel.len⟩)
  clear h hv hR hr
  go_enter Try.func58, Try.ntmps58
  go_upto_region 1 with (fail)
  have HD := Lib.hid (blk_alloc (blk_new w (.cells r.cells 53)) (.cells #[.slice none 0 0, .slice none 0 0, .slice none 0 0] 50))
  have HZ := Lib.hid (show ((w.alloc (.cells r.cells 53)).alloc (.cells #[.slice none 0 0, .slice none 0 0, .slice none 0 0] 50)).heap[w.heap.size + 1]? = some (.cells #[.slice none 0 0, .slice none 0 0, .slice none 0 0] 50 (0, 0)) by rw [← World.size_alloc w (.cells r.cells 53)]; exact blk_new _ _)
  have HB := Lib.hid (below_alloc (below_alloc (Below.refl w.heap.size w) (.cells r.cells 53)) (.cells #[.slice none 0 0, .slice none 0 0, .slice none 0 0] 50))
  generalize (w.alloc (.cells r.cells 53)).alloc _ = W at HD HZ HB ⊢
  obtain ⟨g, hg⟩ : ∃ g, g = w.heap.size := ⟨_, rfl⟩
  rw [← hg] at HD HZ ⊢
  have HG := Lib.hid (show w.heap.size ≤ g by omega)
  clear hg
  go_upto_region 3 with (first | (refine wl_load 50 (.tmp 11) rfl rfl _ _ rfl (rd_ld3 HD.out) ?_) | (refine wl_store (old := #[.slice none 0 0, .slice none 0 0, .slice none 0 0]) (cells := r.f.cells) 50 (.tmp 7) (.tmp 12) rfl rfl rfl rfl (blk_new _ _) info3b rfl (by simp [Value.oneCell', S3.cells]) ?_))
  have H : Hid (TI w g W.heap.size ok r x os K T R 0 x r.f ((W.alloc (.cells #[.slice none 0 0, .slice none 0 0, .slice none 0 0] 50)).setRow W.heap.size r.f.cells)) := Lib.hid ⟨below_then HB.out HB.out.size (below_setRow (below_alloc (Below.refl _ _) _) (Nat.le_refl _) _), (setRow_other _ _ _ _ (by have := blk_lt HD.out; omega)).trans (blk_alloc HD.out _), (setRow_other _ _ _ _ (by have := blk_lt HZ.out; omega)).trans (blk_alloc HZ.out _), setRow_heap _ _ _ _ _ _ (blk_new _ _), HM.out.f.map (fun _ _ k => (k.below (below_then HB.out HB.out.size (below_setRow (below_alloc (Below.refl _ _) _) (Nat.le_refl _) _))).mono (fun _ => .inl)), .inl ⟨Nat.zero_le _, HV.out.1.symm, HV.out.2⟩⟩
  have HG7 := Lib.hid (And.intro (blk_lt HD.out) (And.intro (blk_lt HZ.out) HB.out.size))
  generalize (W.alloc (.cells #[.slice none 0 0, .slice none 0 0, .slice none 0 0] 50)).setRow W.heap.size r.f.cells = W1 at H ⊢
  obtain ⟨g7, hg7⟩ : ∃ x, x = W.heap.size := ⟨_, rfl⟩
  rw [← hg7] at H HG7 ⊢
  obtain ⟨n, hn⟩ : ∃ n, n = r.ops.2.1 := ⟨_, rfl⟩
  rw [← hn] at HN
  have HNn := Lib.hid hn
  have hnl : n ≤ 9223372036854775807 := by have := HN.out; omega
  clear hg7 HD HZ HB HV hn
  go_loopw [8] (fun v8 wr => ∃ (i : Nat) (y : Fs) (s : S3), i ≤ n ∧ v8 = .int .i64 i ∧ Hid (TI w g g7 ok r x os K T R i y s wr)) (fun v8 _ => n - (intOf v8).toNat)
  case atStart => exact ⟨0, x, r.f, Nat.zero_le _, rfl, H⟩
  case round =>
    clear H
    obtain ⟨i, y, s, hin, rfl, H⟩ := hrel
    have cops : wr.cell? ⟨g, 3, none⟩ = some (.slice r.ops.1 n r.ops.2.2) := by rw [HNn.out]; exact (blk_cell H.out.box 3).trans rfl
    by_cases hlt : i < n ∧ i ≤ K
    · obtain ⟨h1, h2⟩ := hlt
      have hii : (i : Int) < (n : Int) := by omega
      have hiK : (i : Int) ≤ (K : Int) := by omega
      have hri : i < rs.length := by have := HN.out; omega
      have hm := HM.out.below H.out.bel
      obtain ⟨o, ho, hro⟩ := hm.rel.at' hri
      obtain ⟨ad, cs, hA, hKk, hld⟩ := Gen.load_mid (t := 99) Try.underlying99 rfl infoRop (Kd.R_reads' hm.ops).2.2 i hri
      obtain ⟨q, hq⟩ : ∃ z : Rop, z = rs[i] := ⟨_, rfl⟩
      rw [← hq] at hro hKk
      clear hq
      obtain ⟨rf, rc, rn, DA, Dn, Dc⟩ := q
      obtain rfl : rf = o.f := hro.f
      obtain rfl : rc = o.cut := hro.cut
      obtain rfl : rn = o.n := hro.n
      have HDa := Lib.hid (show By _ wr (DA, Dn, Dc) o.data from hro.data)
      have HLD : Hid (∀ w', Below wr.heap.size wr w' → (Instr.loadAt 99 (.pointer (some (ad.add (i * 4))))).run Try.prog w' = .ok (.agg #[.int .i64 o.f, .bool o.cut, .int .i64 o.n, .slice DA Dn Dc]) w') := Lib.hid (by
        obtain ⟨c0, c1, rfl, h2, c2, c3, rfl, h3, c4, c5, rfl, h4, h5⟩ := hKk
        obtain rfl : c0 = [.int .i64 o.f] := h2
        obtain rfl : c2 = [.bool o.cut] := h3
        obtain rfl : c4 = [.int .i64 o.n] := h4
        obtain rfl : c5 = [.slice DA Dn Dc] := h5
        exact hld)
      have HLt := Lib.hid (H.out.lt ho h2)
      rw [hA] at cops
      have HR := Lib.hid (And.intro hri h2)
      have hDi : Dn ≤ 9223372036854775807 := by
        have h1 : Dn = o.data.length := HDa.out.reads.1
        have h2 := HDa.out.reads.2.2.2.1
        omega
      clear hri ho hro hKk hld hA hm
      cases hcut : o.cut with
      | true =>
        have HCu := Lib.hid hcut
        by_cases hik : i < K
        · have hne : ((i : Int) == (K : Int)) = false := by simp; omega
          clear hcut
          obtain ⟨i0, hi8, _, hz1, _⟩ := info_parts Low.info8
          have hf3 : o.f < 3 := HLt.out.1.f
          have hf3i : (o.f : Int) < 3 := by omega
          have HBy0 := Lib.hid (H.out.f.get o.f)
          have HNl := Lib.hid (HLt.out.1.n HCu.out)
          have hcutS := Low.cut_h (P := Try.prog) 24 5 Try.underlying24 hi8 hz1 (s.get o.f).1 (s.get o.f).2.1 (s.get o.f).2.2 o.n (by have := HBy0.out.reads; have := HNl.out; omega)
          clear hi8 hz1
          go_upto_region 11 with (first | (refine wl_load 99 (.tmp 28) rfl rfl _ _ rfl (HLD.out _ (Below.refl _ _)) ?_) | (refine wl_store (old := #[.int .i64 0, .bool false, .int .i64 0, .slice none 0 0]) (cells := #[.int .i64 o.f, .bool o.cut, .int .i64 o.n, .slice DA Dn Dc]) 99 (.tmp 9) (.tmp 29) rfl rfl rfl rfl (blk_new _ _) infoRop rfl (by simp [Value.oneCell']) ?_; have HO1 := Lib.hid (setRow_heap (wr.alloc (.cells #[.int .i64 0, .bool false, .int .i64 0, .slice none 0 0] 99)) wr.heap.size _ #[.int .i64 o.f, .bool o.cut, .int .i64 o.n, .slice DA Dn Dc] _ _ (blk_new wr (.cells #[.int .i64 0, .bool false, .int .i64 0, .slice none 0 0] 99))); have HB1 := Lib.hid (below_setRow (below_alloc (Below.refl wr.heap.size wr) (.cells #[.int .i64 0, .bool false, .int .i64 0, .slice none 0 0] 99)) (Nat.le_refl wr.heap.size) #[.int .i64 o.f, .bool o.cut, .int .i64 o.n, .slice DA Dn Dc]); generalize (wr.alloc (.cells #[.int .i64 0, .bool false, .int .i64 0, .slice none 0 0] 99)).setRow wr.heap.size #[.int .i64 o.f, .bool o.cut, .int .i64 o.n, .slice DA Dn Dc] = W3 at HO1 HB1 ⊢; have k1 : W3.cell? ⟨wr.heap.size, 1, none⟩ = some (.bool true) := (blk_cell HO1.out 1).trans (by rw [← HCu.out]; rfl); have k3 : W3.cell? ⟨wr.heap.size, 3, none⟩ = some (.slice DA Dn Dc) := (blk_cell HO1.out 3).trans rfl) | fail)
          have HLB := Lib.hid (blk_drew (blk_below H.out.l HB1.out))
          have HOB := Lib.hid (blk_drew HO1.out)
          have HBy := Lib.hid (show By (fun k => ok k ∨ w.heap.size ≤ k) W3.drew (s.get o.f) (y.get o.f) from ((H.out.f.get o.f).below HB1.out).below (below_drew1 (Below.refl _ _)))
          have HCp := Lib.hid (show Calls Try.prog 54 #[.slice (s.get o.f).1 o.n (s.get o.f).2.2] W3.drew _ by
            have := Low.copy_calls (s.get o.f).1 (s.get o.f).2.2 ((y.get o.f).take o.n) W3.drew (by rw [Low.take_le _ _ HNl.out]; exact Low.take_C HBy.out.reads.2.2 o.n HNl.out) (by rw [Low.take_le _ _ HNl.out]; have := HLt.out.1.len; have := HNl.out; omega)
            rw [Low.take_le _ _ HNl.out] at this
            exact this)
          have HS11 := Lib.hid (show W3.drew.cell? ⟨g7, o.f, none⟩ = some (.slice (s.get o.f).1 (s.get o.f).2.1 (s.get o.f).2.2) ∧ W3.drew.cell? ⟨wr.heap.size, 0, none⟩ = some (.int .i64 o.f) ∧ W3.drew.cell? ⟨wr.heap.size, 2, none⟩ = some (.int .i64 o.n) from ⟨(blk_cell HLB.out o.f).trans (s3_at s hf3), (blk_cell HOB.out 0).trans rfl, (blk_cell HOB.out 2).trans rfl⟩)
          have HGo := Lib.hid (show (i + 1 ≤ K ∧ (y.set o.f ((y.get o.f).take o.n)).crash (os.drop (i + 1)) (K - (i + 1)) T = R ∧ Valid (y.set o.f ((y.get o.f).take o.n)) (os.drop (i + 1))) ∨ (K < i + 1 ∧ y.set o.f ((y.get o.f).take o.n) = R) by
            have e := HLt.out.2.1 hik
            have d : y.done o o.data.length = y.set o.f ((y.get o.f).take o.n) := by unfold Fs.done; rw [if_pos HCu.out]
            rw [d] at e
            exact .inl ⟨by omega, e.1, e.2⟩)
          clear k1 k3
          refine start_ (n := 12) (S := fun w' => w'.cell? ⟨g7, o.f, none⟩ = some (.slice (s.get o.f).1 (s.get o.f).2.1 (s.get o.f).2.2) ∧ w'.cell? ⟨wr.heap.size, 0, none⟩ = some (.int .i64 o.f) ∧ w'.cell? ⟨wr.heap.size, 2, none⟩ = some (.int .i64 o.n)) (ds := [11]) #[false, false, false, false, false, false, false, false, false, false, false, false] (by kernel_rfl) rfl rfl ⟨HS11.out.1, HS11.out.2.1, HS11.out.2.2⟩ (fun hHeld => ?_)
          refine with_tabW ref_After.tab11 ref_After.bits11 (fun HT_ HW_ => ?_)
          refine pure_ (i := 0) (N := some 45) (v := ?_) (a' := ?_) #[true, false, false, false, false, false, false, false, false, false, false, false] rfl rfl (any_of HT_.out (by kernel_rfl)) (fun _ _ _ h => h) (Or.inl ⟨by rfl, ?_⟩) ?_ ?_
          rotate_left
          · intro w'
            go_simp
            with_reducible rfl
          rotate_left
          · simp only [Act.put, List.setIfInBounds_toArray, List.set_cons_zero, List.set_cons_succ, i64_w, i32_w]
            rfl
          refine pure_ (i := 2) (N := some 47) (v := ?_) (a' := ?_) #[true, false, true, false, false, false, false, false, false, false, false, false] rfl rfl (any_of HT_.out (by kernel_rfl)) (fun _ _ _ h => h) (Or.inl ⟨by rfl, ?_⟩) ?_ ?_
          rotate_left
          · intro w'
            go_simp
            with_reducible rfl
          rotate_left
          · simp only [Act.put, List.setIfInBounds_toArray, List.set_cons_zero, List.set_cons_succ, i64_w, i32_w]
            rfl
          refine pure_ (i := 6) (N := some 51) (v := ?_) (a' := ?_) #[true, false, true, false, false, false, true, false, false, false, false, false] rfl rfl (any_of HT_.out (by kernel_rfl)) (fun _ _ _ h => h) (Or.inl ⟨by rfl, ?_⟩) ?_ ?_
          rotate_left
          · intro w'
            go_simp
            with_reducible rfl
          rotate_left
          · simp only [Act.put, List.setIfInBounds_toArray, List.set_cons_zero, List.set_cons_succ, i64_w, i32_w]
            rfl
          refine take_ (i := 1) (N := some 46) (v := ?_) (a' := ?_) #[true, true, true, false, false, false, true, false, false, false, false, false] rfl rfl (take_ofW HT_.out HW_.out (by kernel_rfl)) (fun _ _ _ h => h) (Or.inl ⟨by rfl, ?_⟩) hHeld ?_ ?_
          rotate_left
          · rintro w' ⟨s0, s1, s2⟩
            go_simp
            with_reducible rfl
          rotate_left
          · simp only [Act.put, List.setIfInBounds_toArray, List.set_cons_zero, List.set_cons_succ, i64_w, i32_w]
            rfl
          refine take_ (i := 3) (N := some 48) (v := ?_) (a' := ?_) #[true, true, true, true, false, false, true, false, false, false, false, false] rfl rfl (take_ofW HT_.out HW_.out (by kernel_rfl)) (fun _ _ _ h => h) (Or.inl ⟨by rfl, ?_⟩) hHeld ?_ ?_
          rotate_left
          · rintro w' ⟨s0, s1, s2⟩
            go_simp
            with_reducible rfl
          rotate_left
          · simp only [Act.put, List.setIfInBounds_toArray, List.set_cons_zero, List.set_cons_succ, i64_w, i32_w]
            rfl
          refine pure_ (i := 4) (N := some 49) (v := ?_) (a' := ?_) #[true, true, true, true, true, false, true, false, false, false, false, false] rfl rfl (any_of HT_.out (by kernel_rfl)) (fun _ _ _ h => h) (Or.inl ⟨by rfl, ?_⟩) ?_ ?_
          rotate_left
          · intro w'
            go_simp
            with_reducible rfl
          rotate_left
          · simp only [Act.put, List.setIfInBounds_toArray, List.set_cons_zero, List.set_cons_succ, i64_w, i32_w]
            rfl
          refine take_ (i := 5) (N := some 50) (v := ?_) (a' := ?_) #[true, true, true, true, true, true, true, false, false, false, false, false] rfl rfl (take_ofW HT_.out HW_.out (by kernel_rfl)) (fun _ _ _ h => h) (Or.inl ⟨by rfl, ?_⟩) hHeld ?_ ?_
          rotate_left
          · rintro w' ⟨s0, s1, s2⟩
            go_simp
            with_reducible rfl
          rotate_left
          · simp only [Act.put, List.setIfInBounds_toArray, List.set_cons_zero, List.set_cons_succ, i64_w, i32_w]
            rfl
          refine take_ (i := 7) (N := some 52) (v := ?_) (a' := ?_) #[true, true, true, true, true, true, true, true, false, false, false, false] rfl rfl (take_ofW HT_.out HW_.out (by kernel_rfl)) (fun _ _ _ h => h) (Or.inl ⟨by rfl, ?_⟩) hHeld ?_ ?_
          rotate_left
          · rintro w' ⟨s0, s1, s2⟩
            go_simp
            with_reducible rfl
          rotate_left
          · simp only [Act.put, List.setIfInBounds_toArray, List.set_cons_zero, List.set_cons_succ, i64_w, i32_w]
            rfl
          refine pure_ (i := 8) (N := some 53) (v := ?_) (a' := ?_) #[true, true, true, true, true, true, true, true, true, false, false, false] rfl rfl (any_of HT_.out (by kernel_rfl)) (fun _ _ _ h => h) (Or.inl ⟨by rfl, ?_⟩) ?_ ?_
          rotate_left
          · intro w'
            go_simp
            with_reducible rfl
          rotate_left
          · simp only [Act.put, List.setIfInBounds_toArray, List.set_cons_zero, List.set_cons_succ, i64_w, i32_w]
            rfl
          refine one_ (i := 9) (N := some 54) #[true, true, true, true, true, true, true, true, true, true, false, false] rfl rfl (one_of HT_.out (by kernel_rfl)) (by decide) (fun K hK => ?_)
          refine goes_ Try.func54 (by kernel_rfl) rfl #[.slice (s.get o.f).1 o.n (s.get o.f).2.2] (by rfl) rfl rfl (by simp only [List.map_toArray, List.map_cons, List.map_nil]; rfl) ?_
          with_reducible refine (HCp.out).mono ?_
          rintro e w4 ⟨v0, rfl, ho, hb⟩
          refine ⟨_, rfl, ?_⟩
          obtain ⟨A5, c5, hv⟩ := Kd.R_slice ho
          obtain ⟨n5, hn5⟩ : ∃ n, n = ((y.get o.f).take o.n).length := ⟨_, rfl⟩
          rw [← hn5] at hv
          subst hv
          have HR5 := Lib.hid (show By _ w4 (A5, n5, c5) _ from R_newBy (ok := ok) ho)
          have HB5 := Lib.hid hb
          have HLB4 := Lib.hid (blk_below HLB.out hb)
          have HOB4 := Lib.hid (blk_below HOB.out hb)
          have z5 : w4.frozen? ⟨g7, o.f, none⟩ = false := blk_frozen HLB4.out o.f
          clear ho hb hn5
          refine hK.out _ _ ⟨(blk_cell HLB4.out o.f).trans (s3_at s hf3), (blk_cell HOB4.out 0).trans rfl, (blk_cell HOB4.out 2).trans rfl⟩ (fun hHeld => ?_)
          clear hK K
          refine norm_ (a' := ?_) ?_ ?_
          rotate_left
          · show Act.put _ (some 54) _ = _
            simp only [Act.put, List.setIfInBounds_toArray, List.set_cons_zero, List.set_cons_succ, i64_w, i32_w]
            rfl
          refine pure_ (i := 10) (N := some 55) (v := ?_) (a' := ?_) #[true, true, true, true, true, true, true, true, true, true, true, false] rfl rfl (any_of HT_.out (by kernel_rfl)) (fun _ _ _ h => h) (Or.inl ⟨by rfl, ?_⟩) ?_ ?_
          rotate_left
          · intro w'
            go_simp
            with_reducible rfl
          rotate_left
          · simp only [Act.put, List.setIfInBounds_toArray, List.set_cons_zero, List.set_cons_succ, i64_w, i32_w]
            rfl
          refine last_ (i := 11) (N := none) #[true, true, true, true, true, true, true, true, true, true, true, true] rfl rfl (one_of HT_.out (by kernel_rfl)) (by decide) (fun K hK => ?_)
          refine skip_ (w1 := ?_) (by rfl) rfl ?_ ?_
          rotate_left
          · go_simp
            rfl
          refine hK.out _ _ ?_
          clear hK K
          refine done_ (done_of HT_.out (by kernel_rfl)) ?_
          
          have HT := Lib.hid (H.out.put (below_then HB1.out.drew HB1.out.drew.size HB5.out) (by have := HG7.out; omega) (by have := HG7.out; omega) HG7.out.2.2 hf3 (t := (A5, n5, c5)) (HR5.out.mono (fun k hk => hk.imp id (fun h => Nat.le_trans H.out.bel.size (Nat.le_trans HB1.out.drew.size h)))) HGo.out)
          generalize w4.setCell ⟨g7, o.f, none⟩ (.slice A5 n5 c5) = W6 at HT ⊢
          clear HLB HOB HBy HBy0 HCp HS11 HR5 HB5 hcutS
          go_wp2
          go_roundw
          case rel => exact ⟨i + 1, _, _, by omega, by go_num, HT⟩
          case measure => simp [intOf]; omega
        · have hne : ((i : Int) == (K : Int)) = true := by simp; omega
          obtain rfl : i = K := by omega
          have HyR := Lib.hid (show y = R by have := HLt.out.2.2 rfl; rw [if_pos HCu.out] at this; exact this)
          clear hcut
          have hgg := HG7.out
          go_wp2_with (first | (refine wl_load 99 (.tmp 28) rfl rfl _ _ rfl (HLD.out _ (Below.refl _ _)) ?_) | (refine wl_store (old := #[.int .i64 0, .bool false, .int .i64 0, .slice none 0 0]) (cells := #[.int .i64 o.f, .bool o.cut, .int .i64 o.n, .slice DA Dn Dc]) 99 (.tmp 9) (.tmp 29) rfl rfl rfl rfl (blk_new _ _) infoRop rfl (by simp [Value.oneCell']) ?_; have HO1 := Lib.hid (setRow_heap (wr.alloc (.cells #[.int .i64 0, .bool false, .int .i64 0, .slice none 0 0] 99)) wr.heap.size _ #[.int .i64 o.f, .bool o.cut, .int .i64 o.n, .slice DA Dn Dc] _ _ (blk_new wr (.cells #[.int .i64 0, .bool false, .int .i64 0, .slice none 0 0] 99))); have HB1 := Lib.hid (below_setRow (below_alloc (Below.refl wr.heap.size wr) (.cells #[.int .i64 0, .bool false, .int .i64 0, .slice none 0 0] 99)) (Nat.le_refl wr.heap.size) #[.int .i64 o.f, .bool o.cut, .int .i64 o.n, .slice DA Dn Dc]); generalize (wr.alloc (.cells #[.int .i64 0, .bool false, .int .i64 0, .slice none 0 0] 99)).setRow wr.heap.size #[.int .i64 o.f, .bool o.cut, .int .i64 o.n, .slice DA Dn Dc] = W3 at HO1 HB1 ⊢; have k1 : W3.cell? ⟨wr.heap.size, 1, none⟩ = some (.bool true) := (blk_cell HO1.out 1).trans (by rw [← HCu.out]; rfl); have k3 : W3.cell? ⟨wr.heap.size, 3, none⟩ = some (.slice DA Dn Dc) := (blk_cell HO1.out 3).trans rfl; have HL3 := Lib.hid (blk_below H.out.l HB1.out); have HR3 := Lib.hid (blk_below H.out.res HB1.out)) | (refine wl_load 50 (.tmp 7) rfl rfl _ _ rfl (s3_ld HL3.out) ?_) | (refine wl_store (old := #[.slice none 0 0, .slice none 0 0, .slice none 0 0]) (cells := s.cells) 50 (.tmp 6) (.tmp 66) rfl rfl rfl rfl HR3.out info3b rfl (by simp [Value.oneCell', S3.cells]) ?_) | fail)
          refine bodyPost_ret (results_cell_row rfl _ _ (g + 1) 50 s.cells (0, 0) _ rfl (setRow_heap _ _ _ _ _ _ HR3.out) Try.underlying50 rfl info3b) rfl ?_
          rw [← HyR.out]
          refine ⟨s, rfl, H.out.f.map (fun _ _ k => (k.below HB1.out).box HR3.out (by decide) ⟨rfl, rfl, rfl, by simp, fun k _ hne => setRow_other _ _ _ _ (fun e => hne (by rw [e]))⟩), below_setRow (below_then H.out.bel H.out.bel.size HB1.out) (by have := HG.out; omega) _⟩
      | false =>
        have HCu := Lib.hid hcut
        clear hcut
        have HDl := Lib.hid HDa.out.reads.1
        by_cases hik : i < K
        · have hne : ((i : Int) == (K : Int)) = false := by simp; omega
          go_upto_region 12 with (first | (refine wl_load 99 (.tmp 28) rfl rfl _ _ rfl (HLD.out _ (Below.refl _ _)) ?_) | (refine wl_store (old := #[.int .i64 0, .bool false, .int .i64 0, .slice none 0 0]) (cells := #[.int .i64 o.f, .bool o.cut, .int .i64 o.n, .slice DA Dn Dc]) 99 (.tmp 9) (.tmp 29) rfl rfl rfl rfl (blk_new _ _) infoRop rfl (by simp [Value.oneCell']) ?_; have HO1 := Lib.hid (setRow_heap (wr.alloc (.cells #[.int .i64 0, .bool false, .int .i64 0, .slice none 0 0] 99)) wr.heap.size _ #[.int .i64 o.f, .bool o.cut, .int .i64 o.n, .slice DA Dn Dc] _ _ (blk_new wr (.cells #[.int .i64 0, .bool false, .int .i64 0, .slice none 0 0] 99))); have HB1 := Lib.hid (below_setRow (below_alloc (Below.refl wr.heap.size wr) (.cells #[.int .i64 0, .bool false, .int .i64 0, .slice none 0 0] 99)) (Nat.le_refl wr.heap.size) #[.int .i64 o.f, .bool o.cut, .int .i64 o.n, .slice DA Dn Dc]); generalize (wr.alloc (.cells #[.int .i64 0, .bool false, .int .i64 0, .slice none 0 0] 99)).setRow wr.heap.size #[.int .i64 o.f, .bool o.cut, .int .i64 o.n, .slice DA Dn Dc] = W3 at HO1 HB1 ⊢; have k1 : W3.cell? ⟨wr.heap.size, 1, none⟩ = some (.bool false) := (blk_cell HO1.out 1).trans (by rw [← HCu.out]; rfl); have k3 : W3.cell? ⟨wr.heap.size, 3, none⟩ = some (.slice DA Dn Dc) := (blk_cell HO1.out 3).trans rfl) | fail)
          obtain ⟨m, hm⟩ : ∃ m, m = Dn := ⟨_, rfl⟩
          rw [← hm]
          have HDm := Lib.hid (show Kd.C ku8 W3.drew DA m (o.data.take m) by
            rw [hm, show Dn = o.data.length from HDl.out, List.take_length]
            exact ((HDa.out.below HB1.out).below (below_drew1 (Below.refl _ _))).reads.2.2)
          have HMl := Lib.hid (show m ≤ o.data.length by rw [hm]; exact Nat.le_of_eq HDl.out)
          have HGo := Lib.hid (show (i + 1 ≤ K ∧ (y.set o.f (y.get o.f ++ o.data.take m)).crash (os.drop (i + 1)) (K - (i + 1)) T = R ∧ Valid (y.set o.f (y.get o.f ++ o.data.take m)) (os.drop (i + 1))) ∨ (K < i + 1 ∧ y.set o.f (y.get o.f ++ o.data.take m) = R) by
            have e := HLt.out.2.1 hik
            have d : y.done o o.data.length = y.set o.f (y.get o.f ++ o.data.take m) := by unfold Fs.done; rw [if_neg (by rw [HCu.out]; decide), hm, show Dn = o.data.length from HDl.out]
            rw [d] at e
            exact .inl ⟨by omega, e.1, e.2⟩)
          clear hm
          have HLB := Lib.hid (blk_drew (blk_below H.out.l HB1.out))
          have HOB := Lib.hid (blk_drew HO1.out)
          have hf3 : o.f < 3 := HLt.out.1.f
          have hf3i : (o.f : Int) < 3 := by omega
          have HBy := Lib.hid (show By (fun k => ok k ∨ w.heap.size ≤ k) W3.drew (s.get o.f) (y.get o.f) from ((H.out.f.get o.f).below HB1.out).below (below_drew1 (Below.refl _ _)))
          have HCp := Lib.hid (Low.copy_calls (s.get o.f).1 (s.get o.f).2.2 (y.get o.f) W3.drew HBy.out.reads.2.2 (by have := HLt.out.1.len; omega))
          have HS12 := Lib.hid (show W3.drew.cell? ⟨g7, o.f, none⟩ = some (.slice (s.get o.f).1 (y.get o.f).length (s.get o.f).2.2) ∧ W3.drew.cell? ⟨wr.heap.size, 0, none⟩ = some (.int .i64 o.f) from ⟨by rw [← HBy.out.reads.1]; exact (blk_cell HLB.out o.f).trans (s3_at s hf3), (blk_cell HOB.out 0).trans rfl⟩)
          clear k1 k3
          refine start_ (n := 11) (S := fun w' => w'.cell? ⟨g7, o.f, none⟩ = some (.slice (s.get o.f).1 (y.get o.f).length (s.get o.f).2.2) ∧ w'.cell? ⟨wr.heap.size, 0, none⟩ = some (.int .i64 o.f)) (ds := [10]) #[false, false, false, false, false, false, false, false, false, false, false] (by kernel_rfl) rfl rfl ⟨HS12.out.1, HS12.out.2⟩ (fun hHeld => ?_)
          refine with_tabW ref_After.tab12 ref_After.bits12 (fun HT_ HW_ => ?_)
          refine pure_ (i := 0) (N := some 56) (v := ?_) (a' := ?_) #[true, false, false, false, false, false, false, false, false, false, false] rfl rfl (any_of HT_.out (by kernel_rfl)) (fun _ _ _ h => h) (Or.inl ⟨by rfl, ?_⟩) ?_ ?_
          rotate_left
          · intro w'
            go_simp
            with_reducible rfl
          rotate_left
          · simp only [Act.put, List.setIfInBounds_toArray, List.set_cons_zero, List.set_cons_succ, i64_w, i32_w]
            rfl
          refine pure_ (i := 2) (N := some 58) (v := ?_) (a' := ?_) #[true, false, true, false, false, false, false, false, false, false, false] rfl rfl (any_of HT_.out (by kernel_rfl)) (fun _ _ _ h => h) (Or.inl ⟨by rfl, ?_⟩) ?_ ?_
          rotate_left
          · intro w'
            go_simp
            with_reducible rfl
          rotate_left
          · simp only [Act.put, List.setIfInBounds_toArray, List.set_cons_zero, List.set_cons_succ, i64_w, i32_w]
            rfl
          refine pure_ (i := 7) (N := some 63) (v := ?_) (a' := ?_) #[true, false, true, false, false, false, false, true, false, false, false] rfl rfl (any_of HT_.out (by kernel_rfl)) (fun _ _ _ h => h) (Or.inl ⟨by rfl, ?_⟩) ?_ ?_
          rotate_left
          · intro w'
            go_simp
            with_reducible rfl
          rotate_left
          · simp only [Act.put, List.setIfInBounds_toArray, List.set_cons_zero, List.set_cons_succ, i64_w, i32_w]
            rfl
          refine take_ (i := 1) (N := some 57) (v := ?_) (a' := ?_) #[true, true, true, false, false, false, false, true, false, false, false] rfl rfl (take_ofW HT_.out HW_.out (by kernel_rfl)) (fun _ _ _ h => h) (Or.inl ⟨by rfl, ?_⟩) hHeld ?_ ?_
          rotate_left
          · rintro w' ⟨s0, s1⟩
            go_simp
            with_reducible rfl
          rotate_left
          · simp only [Act.put, List.setIfInBounds_toArray, List.set_cons_zero, List.set_cons_succ, i64_w, i32_w]
            rfl
          refine take_ (i := 3) (N := some 59) (v := ?_) (a' := ?_) #[true, true, true, true, false, false, false, true, false, false, false] rfl rfl (take_ofW HT_.out HW_.out (by kernel_rfl)) (fun _ _ _ h => h) (Or.inl ⟨by rfl, ?_⟩) hHeld ?_ ?_
          rotate_left
          · rintro w' ⟨s0, s1⟩
            go_simp
            with_reducible rfl
          rotate_left
          · simp only [Act.put, List.setIfInBounds_toArray, List.set_cons_zero, List.set_cons_succ, i64_w, i32_w]
            rfl
          refine pure_ (i := 4) (N := some 60) (v := ?_) (a' := ?_) #[true, true, true, true, true, false, false, true, false, false, false] rfl rfl (any_of HT_.out (by kernel_rfl)) (fun _ _ _ h => h) (Or.inl ⟨by rfl, ?_⟩) ?_ ?_
          rotate_left
          · intro w'
            go_simp
            with_reducible rfl
          rotate_left
          · simp only [Act.put, List.setIfInBounds_toArray, List.set_cons_zero, List.set_cons_succ, i64_w, i32_w]
            rfl
          refine take_ (i := 5) (N := some 61) (v := ?_) (a' := ?_) #[true, true, true, true, true, true, false, true, false, false, false] rfl rfl (take_ofW HT_.out HW_.out (by kernel_rfl)) (fun _ _ _ h => h) (Or.inl ⟨by rfl, ?_⟩) hHeld ?_ ?_
          rotate_left
          · rintro w' ⟨s0, s1⟩
            go_simp
            with_reducible rfl
          rotate_left
          · simp only [Act.put, List.setIfInBounds_toArray, List.set_cons_zero, List.set_cons_succ, i64_w, i32_w]
            rfl
          refine one_ (i := 6) (N := some 62) #[true, true, true, true, true, true, true, true, false, false, false] rfl rfl (one_of HT_.out (by kernel_rfl)) (by decide) (fun K hK => ?_)
          refine goes_ Try.func54 (by kernel_rfl) rfl #[.slice (s.get o.f).1 (y.get o.f).length (s.get o.f).2.2] (by rfl) rfl rfl (by simp only [List.map_toArray, List.map_cons, List.map_nil]; rfl) ?_
          with_reducible refine (HCp.out).mono ?_
          rintro e w4 ⟨v0, rfl, ho, hb⟩
          refine ⟨_, rfl, ?_⟩
          have HR5 := Lib.hid ho
          have HB5 := Lib.hid hb
          have HLB4 := Lib.hid (blk_below HLB.out hb)
          have HOB4 := Lib.hid (blk_below HOB.out hb)
          have HD4 := Lib.hid (Kd.C_below HDm.out hb)
          clear ho hb
          refine hK.out _ _ ⟨(by rw [← HBy.out.reads.1]; exact (blk_cell HLB4.out o.f).trans (s3_at s hf3)), (blk_cell HOB4.out 0).trans rfl⟩ (fun hHeld => ?_)
          clear hK K
          refine norm_ (a' := ?_) ?_ ?_
          rotate_left
          · show Act.put _ (some 62) _ = _
            simp only [Act.put, List.setIfInBounds_toArray, List.set_cons_zero, List.set_cons_succ, i64_w, i32_w]
            rfl
          refine one_ (i := 8) (N := some 64) #[true, true, true, true, true, true, true, true, true, false, false] rfl rfl (one_of HT_.out (by kernel_rfl)) (by decide) (fun K hK => ?_)
          refine Kd.R_append_rows_step ku8 (w0 := W3.drew) (W := w4) W3.drew.heap.size (by rfl) (.tmp 62) (.tmp 63) 24 5 (.int .u8 0) 1 rfl Try.underlying24 Low.info8 rfl (by decide) (by decide) v0 (y.get o.f) (o.data.take m) DA m Dc (fun _ => True) (fun _ => False) rfl rfl HR5.out HD4.out (fun _ _ h => h) (fun _ h => h.elim) (fun _ _ => trivial) HB5.out HB5.out.size (by have := HLt.out.1.len; have := HLt.out.1.data; have := HMl.out; omega) ?_
          intro v2 w5 ho hb hg hat
          obtain ⟨A6, c6, hv⟩ := Kd.R_slice ho
          obtain ⟨n6, hn6⟩ : ∃ n, n = (y.get o.f ++ o.data.take m).length := ⟨_, rfl⟩
          rw [← hn6] at hv
          subst hv
          have HR6 := Lib.hid (show By _ w5 (A6, n6, c6) _ from R_newBy (ok := ok) ho)
          have HB6 := Lib.hid hb
          have HLB5 := Lib.hid (blk_below HLB.out hb)
          have HOB5 := Lib.hid (blk_below HOB.out hb)
          have z5 : w5.frozen? ⟨g7, o.f, none⟩ = false := blk_frozen HLB5.out o.f
          clear ho hb hg hat hn6
          refine hK.out _ _ ⟨(by rw [← HBy.out.reads.1]; exact (blk_cell HLB5.out o.f).trans (s3_at s hf3)), (blk_cell HOB5.out 0).trans rfl⟩ (fun hHeld => ?_)
          clear hK K
          refine norm_ (a' := ?_) ?_ ?_
          rotate_left
          · show Act.put _ (some 64) _ = _
            simp only [Act.put, List.setIfInBounds_toArray, List.set_cons_zero, List.set_cons_succ, i64_w, i32_w]
            rfl
          refine pure_ (i := 9) (N := some 65) (v := ?_) (a' := ?_) #[true, true, true, true, true, true, true, true, true, true, false] rfl rfl (any_of HT_.out (by kernel_rfl)) (fun _ _ _ h => h) (Or.inl ⟨by rfl, ?_⟩) ?_ ?_
          rotate_left
          · intro w'
            go_simp
            with_reducible rfl
          rotate_left
          · simp only [Act.put, List.setIfInBounds_toArray, List.set_cons_zero, List.set_cons_succ, i64_w, i32_w]
            rfl
          refine last_ (i := 10) (N := none) #[true, true, true, true, true, true, true, true, true, true, true] rfl rfl (one_of HT_.out (by kernel_rfl)) (by decide) (fun K hK => ?_)
          refine skip_ (w1 := ?_) (by rfl) rfl ?_ ?_
          rotate_left
          · go_simp
            rfl
          refine hK.out _ _ ?_
          clear hK K
          refine done_ (done_of HT_.out (by kernel_rfl)) ?_
          
          have HT := Lib.hid (H.out.put (below_then HB1.out.drew HB1.out.drew.size HB6.out) (by have := HG7.out; omega) (by have := HG7.out; omega) HG7.out.2.2 hf3 (t := (A6, n6, c6)) (HR6.out.mono (fun k hk => hk.imp id (fun h => Nat.le_trans H.out.bel.size (Nat.le_trans HB1.out.drew.size h)))) HGo.out)
          generalize w5.setCell ⟨g7, o.f, none⟩ (.slice A6 n6 c6) = W6 at HT ⊢
          clear HLB HOB HBy HCp HS12 HR6 HB6
          go_wp2
          go_roundw
          case rel => exact ⟨i + 1, _, _, by omega, by go_num, HT⟩
          case measure => simp [intOf]; omega
        · have hne : ((i : Int) == (K : Int)) = true := by simp; omega
          obtain rfl : i = K := by omega
          obtain ⟨m, hm⟩ : ∃ m, m = min T Dn := ⟨_, rfl⟩
          have hmin : (if Dn < T then (Dn : Int) else (T : Int)) = (m : Int) := by rw [hm]; split <;> omega
          obtain ⟨i0, hi8, _, hz1, _⟩ := info_parts Low.info8
          have hcutD := Low.cut_h (P := Try.prog) 24 5 Try.underlying24 hi8 hz1 DA Dn Dc m (by have := HDa.out.reads.2.1; have := HDl.out; simp only at *; omega)
          clear hi8 hz1
          have Hm := Lib.hid hm
          clear hm
          go_upto_region 12 with (first | (refine wl_load 99 (.tmp 28) rfl rfl _ _ rfl (HLD.out _ (Below.refl _ _)) ?_) | (refine wl_store (old := #[.int .i64 0, .bool false, .int .i64 0, .slice none 0 0]) (cells := #[.int .i64 o.f, .bool o.cut, .int .i64 o.n, .slice DA Dn Dc]) 99 (.tmp 9) (.tmp 29) rfl rfl rfl rfl (blk_new _ _) infoRop rfl (by simp [Value.oneCell']) ?_; have HO1 := Lib.hid (setRow_heap (wr.alloc (.cells #[.int .i64 0, .bool false, .int .i64 0, .slice none 0 0] 99)) wr.heap.size _ #[.int .i64 o.f, .bool o.cut, .int .i64 o.n, .slice DA Dn Dc] _ _ (blk_new wr (.cells #[.int .i64 0, .bool false, .int .i64 0, .slice none 0 0] 99))); have HB1 := Lib.hid (below_setRow (below_alloc (Below.refl wr.heap.size wr) (.cells #[.int .i64 0, .bool false, .int .i64 0, .slice none 0 0] 99)) (Nat.le_refl wr.heap.size) #[.int .i64 o.f, .bool o.cut, .int .i64 o.n, .slice DA Dn Dc]); generalize (wr.alloc (.cells #[.int .i64 0, .bool false, .int .i64 0, .slice none 0 0] 99)).setRow wr.heap.size #[.int .i64 o.f, .bool o.cut, .int .i64 o.n, .slice DA Dn Dc] = W3 at HO1 HB1 ⊢; have k1 : W3.cell? ⟨wr.heap.size, 1, none⟩ = some (.bool false) := (blk_cell HO1.out 1).trans (by rw [← HCu.out]; rfl); have k3 : W3.cell? ⟨wr.heap.size, 3, none⟩ = some (.slice DA Dn Dc) := (blk_cell HO1.out 3).trans rfl) | fail)
          have hm := Hm.out
          clear Hm
          have HDm := Lib.hid (show Kd.C ku8 W3.drew DA m (o.data.take m) from
            Low.take_C ((HDa.out.below HB1.out).below (below_drew1 (Below.refl _ _))).reads.2.2 m (by rw [hm, show Dn = o.data.length from HDl.out]; exact Nat.min_le_right _ _))
          have HMl := Lib.hid (show m ≤ o.data.length by rw [hm, show Dn = o.data.length from HDl.out]; exact Nat.min_le_right _ _)
          have HGo := Lib.hid (show (i + 1 ≤ i ∧ (y.set o.f (y.get o.f ++ o.data.take m)).crash (os.drop (i + 1)) (i - (i + 1)) T = R ∧ Valid (y.set o.f (y.get o.f ++ o.data.take m)) (os.drop (i + 1))) ∨ (i < i + 1 ∧ y.set o.f (y.get o.f ++ o.data.take m) = R) by
            have e := HLt.out.2.2 rfl
            rw [if_neg (by rw [HCu.out]; decide)] at e
            have d : y.done o T = y.set o.f (y.get o.f ++ o.data.take m) := by unfold Fs.done; rw [if_neg (by rw [HCu.out]; decide), hm, show Dn = o.data.length from HDl.out, take_min]
            rw [d] at e
            exact .inr ⟨by omega, e⟩)
          clear hm hmin hcutD
          have HLB := Lib.hid (blk_drew (blk_below H.out.l HB1.out))
          have HOB := Lib.hid (blk_drew HO1.out)
          have hf3 : o.f < 3 := HLt.out.1.f
          have hf3i : (o.f : Int) < 3 := by omega
          have HBy := Lib.hid (show By (fun k => ok k ∨ w.heap.size ≤ k) W3.drew (s.get o.f) (y.get o.f) from ((H.out.f.get o.f).below HB1.out).below (below_drew1 (Below.refl _ _)))
          have HCp := Lib.hid (Low.copy_calls (s.get o.f).1 (s.get o.f).2.2 (y.get o.f) W3.drew HBy.out.reads.2.2 (by have := HLt.out.1.len; omega))
          have HS12 := Lib.hid (show W3.drew.cell? ⟨g7, o.f, none⟩ = some (.slice (s.get o.f).1 (y.get o.f).length (s.get o.f).2.2) ∧ W3.drew.cell? ⟨wr.heap.size, 0, none⟩ = some (.int .i64 o.f) from ⟨by rw [← HBy.out.reads.1]; exact (blk_cell HLB.out o.f).trans (s3_at s hf3), (blk_cell HOB.out 0).trans rfl⟩)
          clear k1 k3
          refine start_ (n := 11) (S := fun w' => w'.cell? ⟨g7, o.f, none⟩ = some (.slice (s.get o.f).1 (y.get o.f).length (s.get o.f).2.2) ∧ w'.cell? ⟨wr.heap.size, 0, none⟩ = some (.int .i64 o.f)) (ds := [10]) #[false, false, false, false, false, false, false, false, false, false, false] (by kernel_rfl) rfl rfl ⟨HS12.out.1, HS12.out.2⟩ (fun hHeld => ?_)
          refine with_tabW ref_After.tab12 ref_After.bits12 (fun HT_ HW_ => ?_)
          refine pure_ (i := 0) (N := some 56) (v := ?_) (a' := ?_) #[true, false, false, false, false, false, false, false, false, false, false] rfl rfl (any_of HT_.out (by kernel_rfl)) (fun _ _ _ h => h) (Or.inl ⟨by rfl, ?_⟩) ?_ ?_
          rotate_left
          · intro w'
            go_simp
            with_reducible rfl
          rotate_left
          · simp only [Act.put, List.setIfInBounds_toArray, List.set_cons_zero, List.set_cons_succ, i64_w, i32_w]
            rfl
          refine pure_ (i := 2) (N := some 58) (v := ?_) (a' := ?_) #[true, false, true, false, false, false, false, false, false, false, false] rfl rfl (any_of HT_.out (by kernel_rfl)) (fun _ _ _ h => h) (Or.inl ⟨by rfl, ?_⟩) ?_ ?_
          rotate_left
          · intro w'
            go_simp
            with_reducible rfl
          rotate_left
          · simp only [Act.put, List.setIfInBounds_toArray, List.set_cons_zero, List.set_cons_succ, i64_w, i32_w]
            rfl
          refine pure_ (i := 7) (N := some 63) (v := ?_) (a' := ?_) #[true, false, true, false, false, false, false, true, false, false, false] rfl rfl (any_of HT_.out (by kernel_rfl)) (fun _ _ _ h => h) (Or.inl ⟨by rfl, ?_⟩) ?_ ?_
          rotate_left
          · intro w'
            go_simp
            with_reducible rfl
          rotate_left
          · simp only [Act.put, List.setIfInBounds_toArray, List.set_cons_zero, List.set_cons_succ, i64_w, i32_w]
            rfl
          refine take_ (i := 1) (N := some 57) (v := ?_) (a' := ?_) #[true, true, true, false, false, false, false, true, false, false, false] rfl rfl (take_ofW HT_.out HW_.out (by kernel_rfl)) (fun _ _ _ h => h) (Or.inl ⟨by rfl, ?_⟩) hHeld ?_ ?_
          rotate_left
          · rintro w' ⟨s0, s1⟩
            go_simp
            with_reducible rfl
          rotate_left
          · simp only [Act.put, List.setIfInBounds_toArray, List.set_cons_zero, List.set_cons_succ, i64_w, i32_w]
            rfl
          refine take_ (i := 3) (N := some 59) (v := ?_) (a' := ?_) #[true, true, true, true, false, false, false, true, false, false, false] rfl rfl (take_ofW HT_.out HW_.out (by kernel_rfl)) (fun _ _ _ h => h) (Or.inl ⟨by rfl, ?_⟩) hHeld ?_ ?_
          rotate_left
          · rintro w' ⟨s0, s1⟩
            go_simp
            with_reducible rfl
          rotate_left
          · simp only [Act.put, List.setIfInBounds_toArray, List.set_cons_zero, List.set_cons_succ, i64_w, i32_w]
            rfl
          refine pure_ (i := 4) (N := some 60) (v := ?_) (a' := ?_) #[true, true, true, true, true, false, false, true, false, false, false] rfl rfl (any_of HT_.out (by kernel_rfl)) (fun _ _ _ h => h) (Or.inl ⟨by rfl, ?_⟩) ?_ ?_
          rotate_left
          · intro w'
            go_simp
            with_reducible rfl
          rotate_left
          · simp only [Act.put, List.setIfInBounds_toArray, List.set_cons_zero, List.set_cons_succ, i64_w, i32_w]
            rfl
          refine take_ (i := 5) (N := some 61) (v := ?_) (a' := ?_) #[true, true, true, true, true, true, false, true, false, false, false] rfl rfl (take_ofW HT_.out HW_.out (by kernel_rfl)) (fun _ _ _ h => h) (Or.inl ⟨by rfl, ?_⟩) hHeld ?_ ?_
          rotate_left
          · rintro w' ⟨s0, s1⟩
            go_simp
            with_reducible rfl
          rotate_left
          · simp only [Act.put, List.setIfInBounds_toArray, List.set_cons_zero, List.set_cons_succ, i64_w, i32_w]
            rfl
          refine one_ (i := 6) (N := some 62) #[true, true, true, true, true, true, true, true, false, false, false] rfl rfl (one_of HT_.out (by kernel_rfl)) (by decide) (fun K hK => ?_)
          refine goes_ Try.func54 (by kernel_rfl) rfl #[.slice (s.get o.f).1 (y.get o.f).length (s.get o.f).2.2] (by rfl) rfl rfl (by simp only [List.map_toArray, List.map_cons, List.map_nil]; rfl) ?_
          with_reducible refine (HCp.out).mono ?_
          rintro e w4 ⟨v0, rfl, ho, hb⟩
          refine ⟨_, rfl, ?_⟩
          have HR5 := Lib.hid ho
          have HB5 := Lib.hid hb
          have HLB4 := Lib.hid (blk_below HLB.out hb)
          have HOB4 := Lib.hid (blk_below HOB.out hb)
          have HD4 := Lib.hid (Kd.C_below HDm.out hb)
          clear ho hb
          refine hK.out _ _ ⟨(by rw [← HBy.out.reads.1]; exact (blk_cell HLB4.out o.f).trans (s3_at s hf3)), (blk_cell HOB4.out 0).trans rfl⟩ (fun hHeld => ?_)
          clear hK K
          refine norm_ (a' := ?_) ?_ ?_
          rotate_left
          · show Act.put _ (some 62) _ = _
            simp only [Act.put, List.setIfInBounds_toArray, List.set_cons_zero, List.set_cons_succ, i64_w, i32_w]
            rfl
          refine one_ (i := 8) (N := some 64) #[true, true, true, true, true, true, true, true, true, false, false] rfl rfl (one_of HT_.out (by kernel_rfl)) (by decide) (fun K hK => ?_)
          refine Kd.R_append_rows_step ku8 (w0 := W3.drew) (W := w4) W3.drew.heap.size (by rfl) (.tmp 62) (.tmp 63) 24 5 (.int .u8 0) 1 rfl Try.underlying24 Low.info8 rfl (by decide) (by decide) v0 (y.get o.f) (o.data.take m) DA m Dc (fun _ => True) (fun _ => False) rfl rfl HR5.out HD4.out (fun _ _ h => h) (fun _ h => h.elim) (fun _ _ => trivial) HB5.out HB5.out.size (by have := HLt.out.1.len; have := HLt.out.1.data; have := HMl.out; omega) ?_
          intro v2 w5 ho hb hg hat
          obtain ⟨A6, c6, hv⟩ := Kd.R_slice ho
          obtain ⟨n6, hn6⟩ : ∃ n, n = (y.get o.f ++ o.data.take m).length := ⟨_, rfl⟩
          rw [← hn6] at hv
          subst hv
          have HR6 := Lib.hid (show By _ w5 (A6, n6, c6) _ from R_newBy (ok := ok) ho)
          have HB6 := Lib.hid hb
          have HLB5 := Lib.hid (blk_below HLB.out hb)
          have HOB5 := Lib.hid (blk_below HOB.out hb)
          have z5 : w5.frozen? ⟨g7, o.f, none⟩ = false := blk_frozen HLB5.out o.f
          clear ho hb hg hat hn6
          refine hK.out _ _ ⟨(by rw [← HBy.out.reads.1]; exact (blk_cell HLB5.out o.f).trans (s3_at s hf3)), (blk_cell HOB5.out 0).trans rfl⟩ (fun hHeld => ?_)
          clear hK K
          refine norm_ (a' := ?_) ?_ ?_
          rotate_left
          · show Act.put _ (some 64) _ = _
            simp only [Act.put, List.setIfInBounds_toArray, List.set_cons_zero, List.set_cons_succ, i64_w, i32_w]
            rfl
          refine pure_ (i := 9) (N := some 65) (v := ?_) (a' := ?_) #[true, true, true, true, true, true, true, true, true, true, false] rfl rfl (any_of HT_.out (by kernel_rfl)) (fun _ _ _ h => h) (Or.inl ⟨by rfl, ?_⟩) ?_ ?_
          rotate_left
          · intro w'
            go_simp
            with_reducible rfl
          rotate_left
          · simp only [Act.put, List.setIfInBounds_toArray, List.set_cons_zero, List.set_cons_succ, i64_w, i32_w]
            rfl
          refine last_ (i := 10) (N := none) #[true, true, true, true, true, true, true, true, true, true, true] rfl rfl (one_of HT_.out (by kernel_rfl)) (by decide) (fun K hK => ?_)
          refine skip_ (w1 := ?_) (by rfl) rfl ?_ ?_
          rotate_left
          · go_simp
            rfl
          refine hK.out _ _ ?_
          clear hK K
          refine done_ (done_of HT_.out (by kernel_rfl)) ?_
          
          have HT := Lib.hid (H.out.put (below_then HB1.out.drew HB1.out.drew.size HB6.out) (by have := HG7.out; omega) (by have := HG7.out; omega) HG7.out.2.2 hf3 (t := (A6, n6, c6)) (HR6.out.mono (fun k hk => hk.imp id (fun h => Nat.le_trans H.out.bel.size (Nat.le_trans HB1.out.drew.size h)))) HGo.out)
          generalize w5.setCell ⟨g7, o.f, none⟩ (.slice A6 n6 c6) = W6 at HT ⊢
          clear HLB HOB HBy HCp HS12 HR6 HB6
          go_wp2
          go_roundw
          case rel => exact ⟨i + 1, _, _, by omega, by go_num, HT⟩
          case measure => simp [intOf]; omega
    · have hy : y = R := by
        rcases H.out.go with ⟨h1, h2, _⟩ | ⟨_, h2⟩
        · have hni : n ≤ i := by omega
          rw [List.drop_eq_nil_of_le (by have := HN.out; omega)] at h2
          exact h2
        · exact h2
      subst hy
      have hc : (¬ (i : Int) < (n : Int)) ∨ ((i : Int) < (n : Int) ∧ ¬ (i : Int) ≤ (K : Int)) := by omega
      have hgg := HG7.out
      rcases hc with h1 | ⟨h1, h2⟩
      all_goals (
        go_wp2_with (first | (refine wl_load 50 (.tmp 7) rfl rfl _ _ rfl (s3_ld H.out.l) ?_) | (refine wl_store (old := #[.slice none 0 0, .slice none 0 0, .slice none 0 0]) (cells := s.cells) 50 (.tmp 6) (.tmp 66) rfl rfl rfl rfl H.out.res info3b rfl (by simp [Value.oneCell', S3.cells]) ?_))
        refine bodyPost_ret (results_cell_row rfl _ _ (g + 1) 50 s.cells (0, 0) _ rfl (setRow_heap _ _ _ _ _ _ H.out.res) Try.underlying50 rfl info3b) rfl ?_
        refine ⟨s, rfl, H.out.f.map (fun _ _ k => k.box H.out.res (by decide) ⟨rfl, rfl, rfl, by simp, fun k _ hne => setRow_other _ _ _ _ (fun e => hne (by rw [e]))⟩), below_setRow H.out.bel (by have := HG.out; omega) _⟩)
end Go.Proofs.Ytfggcdpipolahaa.PF
