/- A disk's call Crash. -/
import Derived.Test.YtfggcdpipolahaaFiCallC
set_option linter.unusedVariables false
set_option linter.unusedSimpArgs false
namespace Go.Proofs.Ytfggcdpipolahaa.PF
open Go.RowKit Go.Proofs.YtfggcdpipolahaaW.PrintWords Go.Proofs.YtfggcdpipolahaaW.PrintLast Go.Proofs.YtfggcdpipolahaaW.PrintMore
attribute [local go_sem] max2_int min2_int max_two min_two
def Fs.crash (x : Fs) : List AOp → Nat → Nat → Fs
  | [], _, _ => x
  | o :: _, 0, t => if o.cut = true then x else x.done o t
  | o :: os, k + 1, t => Fs.crash (x.done o o.data.length) os k t
def Valid (x : Fs) : List AOp → Prop
  | [] => True
  | o :: os => o.Ok x ∧ Valid (x.done o o.data.length) os
def ADk.crash (a : ADk) (keep torn : Int) : ADk × Int := if keep < 0 ∨ torn < 0 then (a, 2) else ({ now := a.safe.crash a.ops keep.toNat torn.toNat, safe := a.safe.crash a.ops keep.toNat torn.toNat, ops := [], down := false, arm := 0, fail := 0, wth := a.wth }, 0)
structure CI (w : World) (b : Nat) (ok : Nat → Prop) (d : Dk) (rs : List Rop) (a : ADk) (K T : Nat) (R : Fs) (i : Nat) (x : Fs) (s : S3) (wr : World) : Prop where
  mem : Mem wr b (fun k => ok k ∨ w.heap.size ≤ k) (d.setSafe s) rs { a with safe := x }
  fr : Fr w wr (fun k => k = b)
  go : (i ≤ K ∧ x.crash (a.ops.drop i) (K - i) T = R ∧ Valid x (a.ops.drop i)) ∨ (K < i ∧ x = R)
theorem CI.lt {w : World} {b : Nat} {ok : Nat → Prop} {d : Dk} {rs : List Rop} {a : ADk} {K T : Nat} {R : Fs} {i : Nat} {x : Fs} {s : S3} {wr : World} (h : CI w b ok d rs a K T R i x s wr) {o : AOp} (ho : a.ops[i]? = some o) (hk : i < K) : o.Ok x ∧ Fs.crash (x.done o o.data.length) (a.ops.drop (i + 1)) (K - (i + 1)) T = R ∧ Valid (x.done o o.data.length) (a.ops.drop (i + 1)) := by
  obtain ⟨hl, he⟩ := List.getElem?_eq_some_iff.1 ho
  rcases h.go with ⟨_, h2, h3⟩ | ⟨h1, _⟩
  · rw [List.drop_eq_getElem_cons hl, he] at h2 h3
    obtain ⟨m, hm⟩ : ∃ m, K - i = m + 1 := ⟨K - i - 1, by omega⟩
    rw [hm] at h2
    have : K - (i + 1) = m := by omega
    rw [this]
    exact ⟨h3.1, h2, h3.2⟩
  · omega
theorem CI.eq {w : World} {b : Nat} {ok : Nat → Prop} {d : Dk} {rs : List Rop} {a : ADk} {K T : Nat} {R : Fs} {x : Fs} {s : S3} {wr : World} (h : CI w b ok d rs a K T R K x s wr) {o : AOp} (ho : a.ops[K]? = some o) : o.Ok x ∧ (if o.cut = true then x else x.done o T) = R := by
  obtain ⟨hl, he⟩ := List.getElem?_eq_some_iff.1 ho
  rcases h.go with ⟨_, h2, h3⟩ | ⟨h1, _⟩
  · rw [List.drop_eq_getElem_cons hl, he] at h2 h3
    rw [Nat.sub_self] at h2
    exact ⟨h3.1, h2⟩
  · omega
theorem CI.end_ {w : World} {b : Nat} {ok : Nat → Prop} {d : Dk} {rs : List Rop} {a : ADk} {K T : Nat} {R : Fs} {i : Nat} {x : Fs} {s : S3} {wr : World} (h : CI w b ok d rs a K T R i x s wr) (hi : a.ops.length ≤ i) : x = R := by
  rcases h.go with ⟨_, h2, _⟩ | ⟨_, h2⟩
  · rw [List.drop_eq_nil_of_le hi] at h2
    exact h2
  · exact h2
theorem Rel.at' {ok : Nat → Prop} {w : World} {rs : List Rop} {os : List AOp} (h : Rel ok w rs os) {i : Nat} (hi : i < rs.length) : ∃ o, os[i]? = some o ∧ RelO ok w rs[i] o := by
  have hl := h.len
  obtain ⟨r, hr, hro⟩ := h.at (List.getElem?_eq_getElem (show i < os.length by omega))
  rw [List.getElem?_eq_getElem hi] at hr
  injection hr with hr
  exact ⟨_, List.getElem?_eq_getElem (by omega), hr ▸ hro⟩
def file_crash.T9 : Bool × List (List Nat × List Nat) := (true, [([], []), ([], []), ([1], [1]), ([2], [2]), ([3], [3]), ([], []), ([], []), ([6], [6]), ([7], [7]), ([4, 5, 8], [4, 5, 8]), ([0, 0, 1, 2, 3, 4, 5, 6, 7, 8, 9], [0]), ([10, 0, 1, 2, 3, 4, 5, 6, 7, 8, 9], [10]), ([11, 9, 9, 0, 1, 2, 3, 4, 5, 6, 7, 8, 9], [9, 11])])
def file_crash.B9 : List Nat := [0, 0, 2, 6, 14, 0, 0, 64, 192, 510, 1023, 2047, 4095]
theorem file_crash.tab9 : rtab .any (opsOf Try.f22 9) = file_crash.T9 := by kernel_rfl
theorem file_crash.bits9 : waitsOk file_crash.T9.2 file_crash.B9 = true := by kernel_rfl
def file_crash.T11 : Bool × List (List Nat × List Nat) := (true, [([], []), ([], []), ([1], [1]), ([2], [2]), ([3], [3]), ([], []), ([], []), ([4, 5, 6], [4, 5, 6]), ([0, 0, 1, 2, 3, 4, 5, 6, 7], [0]), ([8, 0, 1, 2, 3, 4, 5, 6, 7], [8]), ([9, 7, 7, 0, 1, 2, 3, 4, 5, 6, 7], [7, 9])])
def file_crash.B11 : List Nat := [0, 0, 2, 6, 14, 0, 0, 126, 255, 511, 1023]
theorem file_crash.tab11 : rtab .any (opsOf Try.f22 11) = file_crash.T11 := by kernel_rfl
theorem file_crash.bits11 : waitsOk file_crash.T11.2 file_crash.B11 = true := by kernel_rfl
set_option maxRecDepth 100000 in
set_option maxHeartbeats 8000000 in
theorem crash_calls {w : World} {b : Nat} {ok : Nat → Prop} {d : Dk} {rs : List Rop} {a : ADk} (h : Mem w b ok d rs a) (hv : Valid a.safe a.ops) (keep torn : Int) :
    Calls Try.prog 22 #[.pointer (some ⟨b, 0, none⟩), .int .i64 keep, .int .i64 torn] w (Post w b ok d (a.crash keep torn)) := by
  have H0 := Lib.hid (none_calls h.box)
  have HM := Lib.hid h
  by_cases h0 : keep < 0
  · have HE := Lib.hid (show a.crash keep torn = (a, 2) by unfold ADk.crash; rw [if_pos (.inl h0)])
    clear h
    go_enter Try.func22, Try.ntmps22
    go_wp2_with fail
    refine H0.out.mono ?_
    rintro e w0 ⟨rfl, rfl⟩
    go_wp2
    go_ret
    rw [HE.out]
    exact Post.same HM.out 2
  by_cases h1 : torn < 0
  · have HE := Lib.hid (show a.crash keep torn = (a, 2) by unfold ADk.crash; rw [if_pos (.inr h1)])
    clear h
    go_enter Try.func22, Try.ntmps22
    go_wp2_with fail
    refine H0.out.mono ?_
    rintro e w0 ⟨rfl, rfl⟩
    go_wp2
    go_ret
    rw [HE.out]
    exact Post.same HM.out 2
  obtain ⟨K, rfl⟩ : ∃ m : Nat, keep = m := ⟨keep.toNat, by omega⟩
  obtain ⟨T, rfl⟩ : ∃ m : Nat, torn = m := ⟨torn.toNat, by omega⟩
  obtain ⟨R, hR⟩ : ∃ R, R = a.safe.crash a.ops K T := ⟨_, rfl⟩
  have HE := Lib.hid (show a.crash K T = ({ now := R, safe := R, ops := [], down := false, arm := 0, fail := 0, wth := a.wth }, 0) by unfold ADk.crash; rw [if_neg (by omega), Int.toNat_natCast, Int.toNat_natCast, ← hR])
  have HI := Lib.hid (show CI w b ok d rs a K T R 0 a.safe d.safe w from ⟨h.mono (fun _ => .inl), Fr.refl _ _, .inl ⟨Nat.zero_le _, hR.symm, hv⟩⟩)
  have g7 : w.cell? ⟨b, 7, none⟩ = some (.slice d.ops.1 d.ops.2.1 d.ops.2.2) := h.box.cell 7 rfl
  have hrd := Kd.R_reads' h.ops
  have hn7 : d.ops.2.1 ≤ 9223372036854775807 := by rw [hrd.1]; exact hrd.2.2.2.1
  have HN := Lib.hid (show d.ops.2.1 = rs.length ∧ rs.length = a.ops.length from ⟨hrd.1, h.rel.len⟩)
  clear h hv hR hrd h0 h1
  go_enter Try.func22, Try.ntmps22
  go_wp2_with fail
  refine H0.out.mono ?_
  rintro e w0 ⟨rfl, rfl⟩
  go_wp2
  obtain ⟨n, hn⟩ : ∃ n, n = d.ops.2.1 := ⟨_, rfl⟩
  rw [← hn] at hn7 HN ⊢
  have HNn := Lib.hid hn
  clear hn g7
  go_loopw [24] (fun v24 wr => ∃ (i : Nat) (x : Fs) (s : S3), i ≤ n ∧ v24 = .int .i64 i ∧ Hid (CI w b ok d rs a K T R i x s wr)) (fun v24 _ => n - (intOf v24).toNat)
  case atStart => exact ⟨0, a.safe, d.safe, Nat.zero_le _, rfl, HI⟩
  case round =>
    clear HI
    obtain ⟨i, x, s, hi, rfl, HI⟩ := hrel
    by_cases hin : i < n
    · have hri : i < rs.length := by have := HN.out; omega
      obtain ⟨o, ho, hro⟩ := HI.out.mem.rel.at' hri
      have HOa := Lib.hid ho
      obtain ⟨ad, cs, hA, hK, hld⟩ := Gen.load_mid (t := 77) Try.underlying77 rfl infoOp (Kd.R_reads' HI.out.mem.ops).2.2 i hri
      obtain ⟨r, hr⟩ : ∃ y : Rop, y = rs[i] := ⟨_, rfl⟩
      rw [← hr] at hro hK
      clear hr
      obtain ⟨rf, rc, rn, D⟩ := r
      obtain rfl : rf = o.f := hro.f
      obtain rfl : rc = o.cut := hro.cut
      obtain rfl : rn = o.n := hro.n
      have HDa := Lib.hid hro.data
      have HLD : Hid (∀ w', Below wr.heap.size wr w' → (Instr.loadAt 77 (.pointer (some (ad.add (i * 4))))).run Try.prog w' = .ok (.agg #[.int .i64 o.f, .bool o.cut, .int .i64 o.n, .slice D.1 D.2.1 D.2.2]) w') := Lib.hid (by
        obtain ⟨c0, c1, rfl, h2, c2, c3, rfl, h3, c4, c5, rfl, h4, h5⟩ := hK
        obtain rfl : c0 = [.int .i64 o.f] := h2
        obtain rfl : c2 = [.bool o.cut] := h3
        obtain rfl : c4 = [.int .i64 o.n] := h4
        obtain rfl : c5 = [.slice D.1 D.2.1 D.2.2] := h5
        exact hld)
      have hA' : d.ops.1 = some ad := hA
      have HR := Lib.hid hri
      rw [hA']
      clear hri ho hro hK hld hA hA'
      have HSz := Lib.hid HI.out.fr.size
      have hDi : D.2.1 ≤ 9223372036854775807 := HDa.out.reads.1 ▸ HDa.out.reads.2.2.2.1
      by_cases hik : i < K
      · have HOk := Lib.hid (HI.out.lt HOa.out hik)
        go_upto_region 9 with (first | (refine wl_load 77 (.tmp 27) rfl rfl _ _ rfl (HLD.out _ (Below.refl _ _)) ?_) | (refine wl_store 77 (.tmp 8) (.tmp 28) rfl rfl rfl rfl (blk_new _ _) infoOp rfl (by simp [Value.oneCell']) ?_; have HO1 := Lib.hid (setRow_heap (wr.alloc (.cells #[.int .i64 0, .bool false, .int .i64 0, .slice none 0 0] 77)) wr.heap.size _ #[.int .i64 o.f, .bool o.cut, .int .i64 o.n, .slice D.1 D.2.1 D.2.2] _ _ (blk_new wr (.cells #[.int .i64 0, .bool false, .int .i64 0, .slice none 0 0] 77))); have HB1 := Lib.hid (below_setRow (below_alloc (Below.refl wr.heap.size wr) (.cells #[.int .i64 0, .bool false, .int .i64 0, .slice none 0 0] 77)) (Nat.le_refl wr.heap.size) #[.int .i64 o.f, .bool o.cut, .int .i64 o.n, .slice D.1 D.2.1 D.2.2]); generalize (wr.alloc (.cells #[.int .i64 0, .bool false, .int .i64 0, .slice none 0 0] 77)).setRow wr.heap.size #[.int .i64 o.f, .bool o.cut, .int .i64 o.n, .slice D.1 D.2.1 D.2.2] = W1 at HO1 HB1 ⊢) | fail)
        have HMw := Lib.hid (HI.out.mem.below HB1.out)
        have HDw := Lib.hid (HDa.out.below HB1.out)
        have HDn := Lib.hid (done_calls (HMw.out.below (below_drew1 (Below.refl _ _))).safe o D (HDw.out.below (below_drew1 (Below.refl _ _))) HOk.out.1 D.2.1)
        have HS5 := Lib.hid (show (Instr.loadAt 61 (.pointer (some ⟨b, 4, none⟩))).run Try.prog W1.drew = .ok s.agg W1.drew ∧ (Instr.loadAt 77 (.pointer (some ⟨wr.heap.size, 0, none⟩))).run Try.prog W1.drew = .ok (.agg #[.int .i64 o.f, .bool o.cut, .int .i64 o.n, .slice D.1 D.2.1 D.2.2]) W1.drew ∧ W1.drew.cell? ⟨wr.heap.size, 3, none⟩ = some (.slice D.1 D.2.1 D.2.2) from ⟨(HMw.out.below (below_drew1 (Below.refl _ _))).box.ld_safe, op_ld (blk_drew HO1.out), (blk_cell (blk_drew HO1.out) 3).trans rfl⟩)
        refine start_ (n := 13) (S := fun w' => (Instr.loadAt 61 (.pointer (some ⟨b, 4, none⟩))).run Try.prog w' = .ok s.agg w' ∧ (Instr.loadAt 77 (.pointer (some ⟨wr.heap.size, 0, none⟩))).run Try.prog w' = .ok (.agg #[.int .i64 o.f, .bool o.cut, .int .i64 o.n, .slice D.1 D.2.1 D.2.2]) w' ∧ w'.cell? ⟨wr.heap.size, 3, none⟩ = some (.slice D.1 D.2.1 D.2.2)) (ds := [12]) #[false, false, false, false, false, false, false, false, false, false, false, false, false] (by kernel_rfl) rfl rfl ⟨HS5.out.1, HS5.out.2.1, HS5.out.2.2⟩ (fun hHeld => ?_)
        refine with_tabW file_crash.tab9 file_crash.bits9 (fun HT_ HW_ => ?_)
        refine pure_ (i := 0) (N := some 33) (v := ?_) (a' := ?_) #[true, false, false, false, false, false, false, false, false, false, false, false, false] rfl rfl (any_of HT_.out (by kernel_rfl)) (fun _ _ _ h => h) (Or.inl ⟨by rfl, ?_⟩) ?_ ?_
        rotate_left
        · intro w'
          go_simp
          with_reducible rfl
        rotate_left
        · simp only [Act.put, List.setIfInBounds_toArray, List.set_cons_zero, List.set_cons_succ, i64_w, i32_w]
          rfl
        refine pure_ (i := 1) (N := some 34) (v := ?_) (a' := ?_) #[true, true, false, false, false, false, false, false, false, false, false, false, false] rfl rfl (any_of HT_.out (by kernel_rfl)) (fun _ _ _ h => h) (Or.inl ⟨by rfl, ?_⟩) ?_ ?_
        rotate_left
        · intro w'
          go_simp
          with_reducible rfl
        rotate_left
        · simp only [Act.put, List.setIfInBounds_toArray, List.set_cons_zero, List.set_cons_succ, i64_w, i32_w]
          rfl
        refine pure_ (i := 2) (N := some 35) (v := ?_) (a' := ?_) #[true, true, true, false, false, false, false, false, false, false, false, false, false] rfl rfl (any_of HT_.out (by kernel_rfl)) (fun _ _ _ h => h) (Or.inl ⟨by rfl, ?_⟩) ?_ ?_
        rotate_left
        · intro w'
          go_simp
          with_reducible rfl
        rotate_left
        · simp only [Act.put, List.setIfInBounds_toArray, List.set_cons_zero, List.set_cons_succ, i64_w, i32_w]
          rfl
        refine pure_ (i := 3) (N := some 36) (v := ?_) (a' := ?_) #[true, true, true, true, false, false, false, false, false, false, false, false, false] rfl rfl (any_of HT_.out (by kernel_rfl)) (fun _ _ _ h => h) (Or.inl ⟨by rfl, ?_⟩) ?_ ?_
        rotate_left
        · intro w'
          go_simp
          with_reducible rfl
        rotate_left
        · simp only [Act.put, List.setIfInBounds_toArray, List.set_cons_zero, List.set_cons_succ, i64_w, i32_w]
          rfl
        refine pure_ (i := 6) (N := some 39) (v := ?_) (a' := ?_) #[true, true, true, true, false, false, true, false, false, false, false, false, false] rfl rfl (any_of HT_.out (by kernel_rfl)) (fun _ _ _ h => h) (Or.inl ⟨by rfl, ?_⟩) ?_ ?_
        rotate_left
        · intro w'
          go_simp
          with_reducible rfl
        rotate_left
        · simp only [Act.put, List.setIfInBounds_toArray, List.set_cons_zero, List.set_cons_succ, i64_w, i32_w]
          rfl
        refine take_ (i := 4) (N := some 37) (v := ?_) (a' := ?_) #[true, true, true, true, true, false, true, false, false, false, false, false, false] rfl rfl (take_ofW HT_.out HW_.out (by kernel_rfl)) (fun _ _ _ h => h) (Or.inl ⟨by rfl, ?_⟩) hHeld ?_ ?_
        rotate_left
        · rintro w' ⟨s0, s1, s2⟩
          clear s1 s2
          refine Eq.trans (exec_load (by rfl) (by rfl) s0) ?_
          with_reducible rfl
        rotate_left
        · simp only [Act.put, List.setIfInBounds_toArray, List.set_cons_zero, List.set_cons_succ, i64_w, i32_w]
          rfl
        refine take_ (i := 5) (N := some 38) (v := ?_) (a' := ?_) #[true, true, true, true, true, true, true, false, false, false, false, false, false] rfl rfl (take_ofW HT_.out HW_.out (by kernel_rfl)) (fun _ _ _ h => h) (Or.inl ⟨by rfl, ?_⟩) hHeld ?_ ?_
        rotate_left
        · rintro w' ⟨s0, s1, s2⟩
          clear s0 s2
          refine Eq.trans (exec_load (by rfl) (by rfl) s1) ?_
          with_reducible rfl
        rotate_left
        · simp only [Act.put, List.setIfInBounds_toArray, List.set_cons_zero, List.set_cons_succ, i64_w, i32_w]
          rfl
        refine take_ (i := 7) (N := some 40) (v := ?_) (a' := ?_) #[true, true, true, true, true, true, true, true, false, false, false, false, false] rfl rfl (take_ofW HT_.out HW_.out (by kernel_rfl)) (fun _ _ _ h => h) (Or.inl ⟨by rfl, ?_⟩) hHeld ?_ ?_
        rotate_left
        · rintro w' ⟨s0, s1, s2⟩
          clear s0 s1
          go_simp
          with_reducible rfl
        rotate_left
        · simp only [Act.put, List.setIfInBounds_toArray, List.set_cons_zero, List.set_cons_succ, i64_w, i32_w]
          rfl
        refine pure_ (i := 8) (N := some 41) (v := ?_) (a' := ?_) #[true, true, true, true, true, true, true, true, true, false, false, false, false] rfl rfl (any_of HT_.out (by kernel_rfl)) (fun _ _ _ h => h) (Or.inl ⟨by rfl, ?_⟩) ?_ ?_
        rotate_left
        · intro w'
          go_simp
          with_reducible rfl
        rotate_left
        · simp only [Act.put, List.setIfInBounds_toArray, List.set_cons_zero, List.set_cons_succ, i64_w, i32_w]
          rfl
        refine one_ (i := 9) (N := some 42) #[true, true, true, true, true, true, true, true, true, true, false, false, false] rfl rfl (one_of HT_.out (by kernel_rfl)) (by decide) (fun K hK => ?_)
        refine goes_ Try.func35 (by kernel_rfl) rfl #[s.agg, .agg #[.int .i64 o.f, .bool o.cut, .int .i64 o.n, .slice D.1 D.2.1 D.2.2], .int .i64 (D.2.1 : Nat)] (by rfl) rfl rfl (by simp only [List.map_toArray, List.map_cons, List.map_nil]; rfl) ?_
        with_reducible refine (HDn.out).mono ?_
        rintro e w4 ⟨ss, rfl, h3, hb4⟩
        refine ⟨_, rfl, ?_⟩
        have H3 := Lib.hid h3
        have HB4 := Lib.hid hb4
        have HP4 := Lib.hid ((HMw.out.below (below_drew1 (Below.refl _ _))).below hb4)
        have HO4 := Lib.hid (blk_below (blk_drew HO1.out) hb4)
        clear h3 hb4
        refine hK.out _ _ ⟨HP4.out.box.ld_safe, op_ld HO4.out, (blk_cell HO4.out 3).trans rfl⟩ (fun hHeld => ?_)
        clear hK K
        refine norm_ (a' := ?_) ?_ ?_
        rotate_left
        · show Act.put _ (some 42) _ = _
          simp only [Act.put, List.setIfInBounds_toArray, List.set_cons_zero, List.set_cons_succ, i64_w, i32_w]
          rfl
        refine pure_ (i := 10) (N := some 43) (v := ?_) (a' := ?_) #[true, true, true, true, true, true, true, true, true, true, true, false, false] rfl rfl (any_of HT_.out (by kernel_rfl)) (fun _ _ _ h => h) (Or.inl ⟨by rfl, ?_⟩) ?_ ?_
        rotate_left
        · intro w'
          go_simp
          with_reducible rfl
        rotate_left
        · simp only [Act.put, List.setIfInBounds_toArray, List.set_cons_zero, List.set_cons_succ, i64_w, i32_w]
          rfl
        refine pure_ (i := 11) (N := some 44) (v := ?_) (a' := ?_) #[true, true, true, true, true, true, true, true, true, true, true, true, false] rfl rfl (any_of HT_.out (by kernel_rfl)) (fun _ _ _ h => h) (Or.inl ⟨by rfl, ?_⟩) ?_ ?_
        rotate_left
        · intro w'
          go_simp
          with_reducible rfl
        rotate_left
        · simp only [Act.put, List.setIfInBounds_toArray, List.set_cons_zero, List.set_cons_succ, i64_w, i32_w]
          rfl
        refine last_ (i := 12) (N := none) #[true, true, true, true, true, true, true, true, true, true, true, true, true] rfl rfl (one_of HT_.out (by kernel_rfl)) (by decide) (fun K hK => ?_)
        refine skip_ (w1 := ?_) (by rfl) rfl ?_ ?_
        rotate_left
        · refine exec_store3 (t := 61) (p := .tmp 44) (v := .tmp 42) (b := b) (k := 4) (x := .slice ss.a.1 ss.a.2.1 ss.a.2.2) (y := .slice ss.b.1 ss.b.2.1 ss.b.2.2) (z := .slice ss.c.1 ss.c.2.1 ss.c.2.2) ?_ ?_ ?_ HP4.out.box infoFs (by show 7 ≤ 12; decide) rfl rfl rfl
          all_goals rfl
        refine hK.out _ _ ?_
        clear hK K
        refine done_ (done_of HT_.out (by kernel_rfl)) ?_
        
        have HFin := Lib.hid ((HP4.out.mono (ok' := fun k => ok k ∨ w.heap.size ≤ k) (fun _ => id)).setSafe (H3.out.map (fun _ _ g => g.mono (fun k hk => hk.elim id (fun h => .inr (Nat.le_trans HSz.out (Nat.le_trans HB1.out.size h)))))))
        have HF5 := Lib.hid (((HI.out.fr.new HB1.out).drew.new HB4.out).then_ (Fr.of_grown (grown_set3 (b := b) 4 (.slice ss.a.1 ss.a.2.1 ss.a.2.2) (.slice ss.b.1 ss.b.2.1 ss.b.2.2) (.slice ss.c.1 ss.c.2.1 ss.c.2.2))) (fun k hk => .inl (by injection hk)))
        generalize ((w4.setCell ⟨b, 4, none⟩ (.slice ss.a.1 ss.a.2.1 ss.a.2.2)).setCell ⟨b, 4 + 1, none⟩ (.slice ss.b.1 ss.b.2.1 ss.b.2.2)).setCell ⟨b, 4 + 1 + 1, none⟩ (.slice ss.c.1 ss.c.2.1 ss.c.2.2) = w5 at HFin HF5 ⊢
        have HDl := Lib.hid (HDa.out.reads.1)
        clear HP4 H3 HDn HS5 HO1 HO4 HB4 HMw HDw HB1 HLD
        go_wp2
        go_roundw
        case rel => exact ⟨i + 1, x.done o D.2.1, ss, by omega, by go_num, Lib.hid ⟨HFin.out, HF5.out, .inl ⟨hik, by rw [HDl.out]; exact HOk.out.2⟩⟩⟩
        case measure => simp [intOf]; omega
      by_cases hc : i = K ∧ o.cut = false
      · obtain ⟨rfl, hcut⟩ := hc
        have HOk := Lib.hid (HI.out.eq HOa.out)
        have HCu := Lib.hid hcut
        clear hcut
        go_upto_region 11 with (first | (refine wl_load 77 (.tmp 27) rfl rfl _ _ rfl (HLD.out _ (Below.refl _ _)) ?_) | (refine wl_store 77 (.tmp 8) (.tmp 28) rfl rfl rfl rfl (blk_new _ _) infoOp rfl (by simp [Value.oneCell']) ?_; have HO1 := Lib.hid (setRow_heap (wr.alloc (.cells #[.int .i64 0, .bool false, .int .i64 0, .slice none 0 0] 77)) wr.heap.size _ #[.int .i64 o.f, .bool o.cut, .int .i64 o.n, .slice D.1 D.2.1 D.2.2] _ _ (blk_new wr (.cells #[.int .i64 0, .bool false, .int .i64 0, .slice none 0 0] 77))); have HB1 := Lib.hid (below_setRow (below_alloc (Below.refl wr.heap.size wr) (.cells #[.int .i64 0, .bool false, .int .i64 0, .slice none 0 0] 77)) (Nat.le_refl wr.heap.size) #[.int .i64 o.f, .bool o.cut, .int .i64 o.n, .slice D.1 D.2.1 D.2.2]); generalize (wr.alloc (.cells #[.int .i64 0, .bool false, .int .i64 0, .slice none 0 0] 77)).setRow wr.heap.size #[.int .i64 o.f, .bool o.cut, .int .i64 o.n, .slice D.1 D.2.1 D.2.2] = W1 at HO1 HB1 ⊢; have c1 : W1.cell? ⟨wr.heap.size, 1, none⟩ = some (.bool false) := (blk_cell HO1.out 1).trans (by rw [← HCu.out]; rfl)) | fail)
        have HMw := Lib.hid (HI.out.mem.below HB1.out)
        have HDw := Lib.hid (HDa.out.below HB1.out)
        have HDn := Lib.hid (done_calls (HMw.out.below (below_drew1 (Below.refl _ _))).safe o D (HDw.out.below (below_drew1 (Below.refl _ _))) HOk.out.1 T)
        have HS5 := Lib.hid (show (Instr.loadAt 61 (.pointer (some ⟨b, 4, none⟩))).run Try.prog W1.drew = .ok s.agg W1.drew ∧ (Instr.loadAt 77 (.pointer (some ⟨wr.heap.size, 0, none⟩))).run Try.prog W1.drew = .ok (.agg #[.int .i64 o.f, .bool o.cut, .int .i64 o.n, .slice D.1 D.2.1 D.2.2]) W1.drew ∧ W1.drew.cell? ⟨wr.heap.size, 3, none⟩ = some (.slice D.1 D.2.1 D.2.2) from ⟨(HMw.out.below (below_drew1 (Below.refl _ _))).box.ld_safe, op_ld (blk_drew HO1.out), (blk_cell (blk_drew HO1.out) 3).trans rfl⟩)
        refine start_ (n := 11) (S := fun w' => (Instr.loadAt 61 (.pointer (some ⟨b, 4, none⟩))).run Try.prog w' = .ok s.agg w' ∧ (Instr.loadAt 77 (.pointer (some ⟨wr.heap.size, 0, none⟩))).run Try.prog w' = .ok (.agg #[.int .i64 o.f, .bool o.cut, .int .i64 o.n, .slice D.1 D.2.1 D.2.2]) w' ∧ w'.cell? ⟨wr.heap.size, 3, none⟩ = some (.slice D.1 D.2.1 D.2.2)) (ds := [10]) #[false, false, false, false, false, false, false, false, false, false, false] (by kernel_rfl) rfl rfl ⟨HS5.out.1, HS5.out.2.1, HS5.out.2.2⟩ (fun hHeld => ?_)
        refine with_tabW file_crash.tab11 file_crash.bits11 (fun HT_ HW_ => ?_)
        refine pure_ (i := 0) (N := some 54) (v := ?_) (a' := ?_) #[true, false, false, false, false, false, false, false, false, false, false] rfl rfl (any_of HT_.out (by kernel_rfl)) (fun _ _ _ h => h) (Or.inl ⟨by rfl, ?_⟩) ?_ ?_
        rotate_left
        · intro w'
          go_simp
          with_reducible rfl
        rotate_left
        · simp only [Act.put, List.setIfInBounds_toArray, List.set_cons_zero, List.set_cons_succ, i64_w, i32_w]
          rfl
        refine pure_ (i := 1) (N := some 55) (v := ?_) (a' := ?_) #[true, true, false, false, false, false, false, false, false, false, false] rfl rfl (any_of HT_.out (by kernel_rfl)) (fun _ _ _ h => h) (Or.inl ⟨by rfl, ?_⟩) ?_ ?_
        rotate_left
        · intro w'
          go_simp
          with_reducible rfl
        rotate_left
        · simp only [Act.put, List.setIfInBounds_toArray, List.set_cons_zero, List.set_cons_succ, i64_w, i32_w]
          rfl
        refine pure_ (i := 2) (N := some 56) (v := ?_) (a' := ?_) #[true, true, true, false, false, false, false, false, false, false, false] rfl rfl (any_of HT_.out (by kernel_rfl)) (fun _ _ _ h => h) (Or.inl ⟨by rfl, ?_⟩) ?_ ?_
        rotate_left
        · intro w'
          go_simp
          with_reducible rfl
        rotate_left
        · simp only [Act.put, List.setIfInBounds_toArray, List.set_cons_zero, List.set_cons_succ, i64_w, i32_w]
          rfl
        refine pure_ (i := 3) (N := some 57) (v := ?_) (a' := ?_) #[true, true, true, true, false, false, false, false, false, false, false] rfl rfl (any_of HT_.out (by kernel_rfl)) (fun _ _ _ h => h) (Or.inl ⟨by rfl, ?_⟩) ?_ ?_
        rotate_left
        · intro w'
          go_simp
          with_reducible rfl
        rotate_left
        · simp only [Act.put, List.setIfInBounds_toArray, List.set_cons_zero, List.set_cons_succ, i64_w, i32_w]
          rfl
        refine pure_ (i := 6) (N := some 60) (v := ?_) (a' := ?_) #[true, true, true, true, false, false, true, false, false, false, false] rfl rfl (any_of HT_.out (by kernel_rfl)) (fun _ _ _ h => h) (Or.inl ⟨by rfl, ?_⟩) ?_ ?_
        rotate_left
        · intro w'
          go_simp
          with_reducible rfl
        rotate_left
        · simp only [Act.put, List.setIfInBounds_toArray, List.set_cons_zero, List.set_cons_succ, i64_w, i32_w]
          rfl
        refine take_ (i := 4) (N := some 58) (v := ?_) (a' := ?_) #[true, true, true, true, true, false, true, false, false, false, false] rfl rfl (take_ofW HT_.out HW_.out (by kernel_rfl)) (fun _ _ _ h => h) (Or.inl ⟨by rfl, ?_⟩) hHeld ?_ ?_
        rotate_left
        · rintro w' ⟨s0, s1, s2⟩
          clear s1 s2
          refine Eq.trans (exec_load (by rfl) (by rfl) s0) ?_
          with_reducible rfl
        rotate_left
        · simp only [Act.put, List.setIfInBounds_toArray, List.set_cons_zero, List.set_cons_succ, i64_w, i32_w]
          rfl
        refine take_ (i := 5) (N := some 59) (v := ?_) (a' := ?_) #[true, true, true, true, true, true, true, false, false, false, false] rfl rfl (take_ofW HT_.out HW_.out (by kernel_rfl)) (fun _ _ _ h => h) (Or.inl ⟨by rfl, ?_⟩) hHeld ?_ ?_
        rotate_left
        · rintro w' ⟨s0, s1, s2⟩
          clear s0 s2
          refine Eq.trans (exec_load (by rfl) (by rfl) s1) ?_
          with_reducible rfl
        rotate_left
        · simp only [Act.put, List.setIfInBounds_toArray, List.set_cons_zero, List.set_cons_succ, i64_w, i32_w]
          rfl
        refine one_ (i := 7) (N := some 61) #[true, true, true, true, true, true, true, true, false, false, false] rfl rfl (one_of HT_.out (by kernel_rfl)) (by decide) (fun K hK => ?_)
        refine goes_ Try.func35 (by kernel_rfl) rfl #[s.agg, .agg #[.int .i64 o.f, .bool o.cut, .int .i64 o.n, .slice D.1 D.2.1 D.2.2], .int .i64 (T : Nat)] (by rfl) rfl rfl (by simp only [List.map_toArray, List.map_cons, List.map_nil]; rfl) ?_
        with_reducible refine (HDn.out).mono ?_
        rintro e w4 ⟨ss, rfl, h3, hb4⟩
        refine ⟨_, rfl, ?_⟩
        have H3 := Lib.hid h3
        have HB4 := Lib.hid hb4
        have HP4 := Lib.hid ((HMw.out.below (below_drew1 (Below.refl _ _))).below hb4)
        have HO4 := Lib.hid (blk_below (blk_drew HO1.out) hb4)
        clear h3 hb4
        refine hK.out _ _ ⟨HP4.out.box.ld_safe, op_ld HO4.out, (blk_cell HO4.out 3).trans rfl⟩ (fun hHeld => ?_)
        clear hK K
        refine norm_ (a' := ?_) ?_ ?_
        rotate_left
        · show Act.put _ (some 61) _ = _
          simp only [Act.put, List.setIfInBounds_toArray, List.set_cons_zero, List.set_cons_succ, i64_w, i32_w]
          rfl
        refine pure_ (i := 8) (N := some 62) (v := ?_) (a' := ?_) #[true, true, true, true, true, true, true, true, true, false, false] rfl rfl (any_of HT_.out (by kernel_rfl)) (fun _ _ _ h => h) (Or.inl ⟨by rfl, ?_⟩) ?_ ?_
        rotate_left
        · intro w'
          go_simp
          with_reducible rfl
        rotate_left
        · simp only [Act.put, List.setIfInBounds_toArray, List.set_cons_zero, List.set_cons_succ, i64_w, i32_w]
          rfl
        refine pure_ (i := 9) (N := some 63) (v := ?_) (a' := ?_) #[true, true, true, true, true, true, true, true, true, true, false] rfl rfl (any_of HT_.out (by kernel_rfl)) (fun _ _ _ h => h) (Or.inl ⟨by rfl, ?_⟩) ?_ ?_
        rotate_left
        · intro w'
          go_simp
          with_reducible rfl
        rotate_left
        · simp only [Act.put, List.setIfInBounds_toArray, List.set_cons_zero, List.set_cons_succ, i64_w, i32_w]
          rfl
        refine last_ (i := 10) (N := none) #[true, true, true, true, true, true, true, true, true, true, true] rfl rfl (one_of HT_.out (by kernel_rfl)) (by decide) (fun K hK => ?_)
        refine skip_ (w1 := ?_) (by rfl) rfl ?_ ?_
        rotate_left
        · refine exec_store3 (t := 61) (p := .tmp 63) (v := .tmp 61) (b := b) (k := 4) (x := .slice ss.a.1 ss.a.2.1 ss.a.2.2) (y := .slice ss.b.1 ss.b.2.1 ss.b.2.2) (z := .slice ss.c.1 ss.c.2.1 ss.c.2.2) ?_ ?_ ?_ HP4.out.box infoFs (by show 7 ≤ 12; decide) rfl rfl rfl
          all_goals rfl
        refine hK.out _ _ ?_
        clear hK K
        refine done_ (done_of HT_.out (by kernel_rfl)) ?_
        
        have HFin := Lib.hid ((HP4.out.mono (ok' := fun k => ok k ∨ w.heap.size ≤ k) (fun _ => id)).setSafe (H3.out.map (fun _ _ g => g.mono (fun k hk => hk.elim id (fun h => .inr (Nat.le_trans HSz.out (Nat.le_trans HB1.out.size h)))))))
        have HF5 := Lib.hid (((HI.out.fr.new HB1.out).drew.new HB4.out).then_ (Fr.of_grown (grown_set3 (b := b) 4 (.slice ss.a.1 ss.a.2.1 ss.a.2.2) (.slice ss.b.1 ss.b.2.1 ss.b.2.2) (.slice ss.c.1 ss.c.2.1 ss.c.2.2))) (fun k hk => .inl (by injection hk)))
        generalize ((w4.setCell ⟨b, 4, none⟩ (.slice ss.a.1 ss.a.2.1 ss.a.2.2)).setCell ⟨b, 4 + 1, none⟩ (.slice ss.b.1 ss.b.2.1 ss.b.2.2)).setCell ⟨b, 4 + 1 + 1, none⟩ (.slice ss.c.1 ss.c.2.1 ss.c.2.2) = w5 at HFin HF5 ⊢
        have HDl := Lib.hid (HDa.out.reads.1)
        clear HP4 H3 HDn HS5 HO1 HO4 HB4 HMw HDw HB1 c1 HLD
        go_wp2
        go_roundw
        case rel => exact ⟨i + 1, x.done o T, ss, by omega, by go_num, Lib.hid ⟨HFin.out, HF5.out, .inr ⟨by omega, by have := HOk.out.2; rw [if_neg (by rw [HCu.out]; decide)] at this; exact this⟩⟩⟩
        case measure => simp [intOf]; omega
      · by_cases hc2 : i = K
        · subst hc2
          have HCu := Lib.hid (show o.cut = true by cases ho : o.cut with | true => rfl | false => exact absurd ⟨rfl, ho⟩ hc)
          have HOk := Lib.hid (HI.out.eq HOa.out)
          clear hc
          go_wp2_with (first | (refine wl_load 77 (.tmp 27) rfl rfl _ _ rfl (HLD.out _ (Below.refl _ _)) ?_) | (refine wl_store 77 (.tmp 8) (.tmp 28) rfl rfl rfl rfl (blk_new _ _) infoOp rfl (by simp [Value.oneCell']) ?_; have HO1 := Lib.hid (setRow_heap (wr.alloc (.cells #[.int .i64 0, .bool false, .int .i64 0, .slice none 0 0] 77)) wr.heap.size _ #[.int .i64 o.f, .bool o.cut, .int .i64 o.n, .slice D.1 D.2.1 D.2.2] _ _ (blk_new wr (.cells #[.int .i64 0, .bool false, .int .i64 0, .slice none 0 0] 77))); have HB1 := Lib.hid (below_setRow (below_alloc (Below.refl wr.heap.size wr) (.cells #[.int .i64 0, .bool false, .int .i64 0, .slice none 0 0] 77)) (Nat.le_refl wr.heap.size) #[.int .i64 o.f, .bool o.cut, .int .i64 o.n, .slice D.1 D.2.1 D.2.2]); generalize (wr.alloc (.cells #[.int .i64 0, .bool false, .int .i64 0, .slice none 0 0] 77)).setRow wr.heap.size #[.int .i64 o.f, .bool o.cut, .int .i64 o.n, .slice D.1 D.2.1 D.2.2] = W1 at HO1 HB1 ⊢; have c1 : W1.cell? ⟨wr.heap.size, 1, none⟩ = some (.bool true) := (blk_cell HO1.out 1).trans (by rw [← HCu.out]; rfl)) | fail)
          go_roundw
          case rel => exact ⟨i + 1, x, s, by omega, by go_num, Lib.hid ⟨HI.out.mem.below HB1.out, HI.out.fr.new HB1.out, .inr ⟨by omega, by have := HOk.out.2; rw [if_pos HCu.out] at this; exact this⟩⟩⟩
          case measure => simp [intOf]; omega
        · clear hc
          go_wp2_with (first | (refine wl_load 77 (.tmp 27) rfl rfl _ _ rfl (HLD.out _ (Below.refl _ _)) ?_) | (refine wl_store 77 (.tmp 8) (.tmp 28) rfl rfl rfl rfl (blk_new _ _) infoOp rfl (by simp [Value.oneCell']) ?_; have HO1 := Lib.hid (setRow_heap (wr.alloc (.cells #[.int .i64 0, .bool false, .int .i64 0, .slice none 0 0] 77)) wr.heap.size _ #[.int .i64 o.f, .bool o.cut, .int .i64 o.n, .slice D.1 D.2.1 D.2.2] _ _ (blk_new wr (.cells #[.int .i64 0, .bool false, .int .i64 0, .slice none 0 0] 77))); have HB1 := Lib.hid (below_setRow (below_alloc (Below.refl wr.heap.size wr) (.cells #[.int .i64 0, .bool false, .int .i64 0, .slice none 0 0] 77)) (Nat.le_refl wr.heap.size) #[.int .i64 o.f, .bool o.cut, .int .i64 o.n, .slice D.1 D.2.1 D.2.2]); generalize (wr.alloc (.cells #[.int .i64 0, .bool false, .int .i64 0, .slice none 0 0] 77)).setRow wr.heap.size #[.int .i64 o.f, .bool o.cut, .int .i64 o.n, .slice D.1 D.2.1 D.2.2] = W1 at HO1 HB1 ⊢) | fail)
          go_roundw
          case rel => exact ⟨i + 1, x, s, by omega, by go_num, Lib.hid ⟨HI.out.mem.below HB1.out, HI.out.fr.new HB1.out, .inr ⟨by omega, HI.out.go.elim (fun h => by have := h.1; omega) (fun h => h.2)⟩⟩⟩
          case measure => simp [intOf]; omega
    · have HX := Lib.hid (HI.out.end_ (by have := HN.out; omega))
      have HM1 := Lib.hid HI.out.mem
      have HF1 := Lib.hid (HI.out.fr.mono (Y := fun k => k = b ∨ some k = d.opsB) (fun k hk => .inl hk))
      obtain rfl := HX.out
      clear HI HX
      go_wp2_with (first | (refine wl_load 61 (.tmp 70) rfl rfl _ _ rfl HM1.out.box.ld_safe ?_) | (refine wl_store3 61 (.tmp 73) (.tmp 71) (k := 1) (x := .slice s.a.1 s.a.2.1 s.a.2.2) (y := .slice s.b.1 s.b.2.1 s.b.2.2) (z := .slice s.c.1 s.c.2.1 s.c.2.2) rfl rfl rfl rfl HM1.out.box infoFs (by show 4 ≤ 12; decide) rfl rfl rfl ?_; have HM2 := Lib.hid (HM1.out.setNow HM1.out.safe); have HF2 := Lib.hid (HF1.out.then_ (Fr.of_grown (grown_set3 (b := b) 1 (.slice s.a.1 s.a.2.1 s.a.2.2) (.slice s.b.1 s.b.2.1 s.b.2.2) (.slice s.c.1 s.c.2.1 s.c.2.2))) (fun k hk => .inl (.inl (by injection hk)))); generalize ((wr.setCell ⟨b, 1, none⟩ (.slice s.a.1 s.a.2.1 s.a.2.2)).setCell ⟨b, 1 + 1, none⟩ (.slice s.b.1 s.b.2.1 s.b.2.2)).setCell ⟨b, 1 + 1 + 1, none⟩ (.slice s.c.1 s.c.2.1 s.c.2.2) = w2 at HM2 HF2 ⊢; have c7 : w2.cell? ⟨b, 7, none⟩ = some (.slice d.ops.1 d.ops.2.1 d.ops.2.2) := HM2.out.box.cell 7 rfl; have z7 : w2.frozen? ⟨b, 7, none⟩ = false := blk_frozen HM2.out.box 7; have c8 : w2.cell? ⟨b, 8, none⟩ = some (.bool d.down) := HM2.out.box.cell 8 rfl; have z8 : w2.frozen? ⟨b, 8, none⟩ = false := blk_frozen HM2.out.box 8; have HM3 := Lib.hid (HM2.out.noOps.setDown false)) | fail)
      refine (at_store (HM3.out.box.cell 9 rfl) (blk_frozen HM3.out.box 9)).mono ?_
      rintro e w3 ⟨rfl, rfl⟩
      have HM4 := Lib.hid (HM3.out.setArm 0)
      go_wp2_with fail
      refine (at_store (HM4.out.box.cell 10 rfl) (blk_frozen HM4.out.box 10)).mono ?_
      rintro e w4 ⟨rfl, rfl⟩
      have HM5 := Lib.hid (HM4.out.setFail 0)
      go_wp2
      go_ret
      rw [HE.out]
      refine ⟨_, _, rfl, HM5.out, HF2.out.then_ (Fr.of_grown (grown_then (grown_then (grown_then (grown_set 7 _) (grown_set 8 _)) (grown_set 9 _)) (grown_set 10 _))) (fun k hk => .inl (.inl (by injection hk))), fun k hk => ?_⟩
      simp [Dk.opsB, Value.ownBlock] at hk
end Go.Proofs.Ytfggcdpipolahaa.PF
