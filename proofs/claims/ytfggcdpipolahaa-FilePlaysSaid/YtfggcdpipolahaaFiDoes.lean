/- An operation, if nothing stops it. -/
import Derived.Test.YtfggcdpipolahaaFiMemB
set_option linter.unusedVariables false
set_option linter.unusedSimpArgs false
namespace Go.Proofs.Ytfggcdpipolahaa.PF
open Go.RowKit Go.Proofs.YtfggcdpipolahaaW.PrintWords Go.Proofs.YtfggcdpipolahaaW.PrintLast Go.Proofs.YtfggcdpipolahaaW.PrintMore
attribute [local go_sem] max2_int min2_int max_two min_two
def ADk.does (a : ADk) (o : AOp) : ADk × Int := if a.stop.2 = 0 then ({ a.stop.1 with ops := a.ops ++ [o], now := a.now.done o o.data.length }, 0) else a.stop
theorem stop_opsB (d : Dk) : (stop d).1.opsB = d.opsB := by
  unfold PF.stop
  split
  · rfl
  · split
    · rfl
    · split <;> rfl
theorem stop_now (a : ADk) : a.stop.1.now = a.now ∧ a.stop.1.safe = a.safe ∧ a.stop.1.ops = a.ops := by
  unfold ADk.stop
  split
  · exact ⟨rfl, rfl, rfl⟩
  · split
    · exact ⟨rfl, rfl, rfl⟩
    · split <;> exact ⟨rfl, rfl, rfl⟩
def file_does.T4 : Bool × List (List Nat × List Nat) := (true, [([], []), ([], []), ([1], [1]), ([2], [2]), ([3], [3]), ([], []), ([5], [5]), ([4, 6], [4, 6]), ([0, 0, 1, 2, 3, 4, 5, 6, 7], [0]), ([8, 0, 1, 2, 3, 4, 5, 6, 7], [8]), ([9, 7, 7, 0, 1, 2, 3, 4, 5, 6, 7], [7, 9])])
def file_does.B4 : List Nat := [0, 0, 2, 6, 14, 0, 32, 126, 255, 511, 1023]
theorem file_does.tab4 : rtab .any (opsOf Try.f30 4) = file_does.T4 := by kernel_rfl
theorem file_does.bits4 : waitsOk file_does.T4.2 file_does.B4 = true := by kernel_rfl
def file_does.T5 : Bool × List (List Nat × List Nat) := (true, [([], []), ([], []), ([1], [1]), ([2], [2]), ([3], [3]), ([], []), ([], []), ([6], [6]), ([7], [7]), ([4, 5, 8], [4, 5, 8]), ([0, 0, 1, 2, 3, 4, 5, 6, 7, 8, 9], [0]), ([10, 0, 1, 2, 3, 4, 5, 6, 7, 8, 9], [10]), ([11, 9, 9, 0, 1, 2, 3, 4, 5, 6, 7, 8, 9], [9, 11])])
def file_does.B5 : List Nat := [0, 0, 2, 6, 14, 0, 0, 64, 192, 510, 1023, 2047, 4095]
theorem file_does.tab5 : rtab .any (opsOf Try.f30 5) = file_does.T5 := by kernel_rfl
theorem file_does.bits5 : waitsOk file_does.T5.2 file_does.B5 = true := by kernel_rfl
set_option maxRecDepth 100000 in
set_option maxHeartbeats 4000000 in
theorem does_calls {w : World} {b : Nat} {ok : Nat → Prop} {d : Dk} {rs : List Rop} {a : ADk} (h : Mem w b ok d rs a) (hn : a.Nums) (o : AOp) (D : Sl) (hD : By ok w D o.data) (hok : o.Ok a.now) (hl : a.ops.length ≤ 1099511627776) :
    Calls Try.prog 30 #[.pointer (some ⟨b, 0, none⟩), .agg #[.int .i64 o.f, .bool o.cut, .int .i64 o.n, .slice D.1 D.2.1 D.2.2]] w fun e w' => ∃ d' rs', e = .returned (.int .i64 (a.does o).2) ∧ Mem w' b (fun k => ok k ∨ w.heap.size ≤ k) d' rs' (a.does o).1 ∧ Fr w w' (fun k => k = b ∨ some k = d.opsB) ∧ (∀ k, d'.opsB = some k → d.opsB = some k ∨ w.heap.size ≤ k) := by
  have HS := Lib.hid (fun W (hW : Below w.heap.size w W) => stoppedM_calls (h.below hW) hn)
  have HD := Lib.hid (fun W (hW : Below w.heap.size w W) => hD.below hW)
  have HLT := Lib.hid (And.intro h.ops_lt (blk_lt h.box))
  have HK := Lib.hid (And.intro hok hl)
  have HRel := Lib.hid h.rel.len
  have HBx := Lib.hid (fun W (hW : Below w.heap.size w W) => h.box.keep hW)
  clear h hn hD hok hl
  go_enter Try.func30, Try.ntmps30
  go_wp2_with fail
  refine (HS.out _ (below_alloc (Below.refl _ _) _)).mono ?_
  rintro e w1 ⟨rfl, hm1, hg1⟩
  have HM := Lib.hid hm1
  have HB0 := Lib.hid (below_alloc (Below.refl w.heap.size w) (.cells #[.int .i64 o.f, .bool o.cut, .int .i64 o.n, .slice D.1 D.2.1 D.2.2] 77))
  have HG := Lib.hid hg1
  obtain ⟨bo, hbo⟩ : ∃ x, x = w.heap.size := ⟨_, rfl⟩
  have HO : Hid (w1.heap[bo]? = some (.cells #[.int .i64 o.f, .bool o.cut, .int .i64 o.n, .slice D.1 D.2.1 D.2.2] 77 (0, 0))) := Lib.hid (by
    rw [hbo, hg1.block w.heap.size (by simp [World.size_alloc]) (by have := HLT.out.2; intro e; injection e with e; omega)]
    exact blk_new _ _)
  have HFr : Hid (Fr w w1 (fun k => k = b ∨ some k = d.opsB)) := Lib.hid ((Fr.of_below HB0.out _).then_ (Fr.of_grown hg1) (fun k hk => .inl (.inl (by injection hk))))
  have HDm : Hid (By ok w1 D o.data) := Lib.hid (By.box (HD.out _ HB0.out) (HBx.out _ HB0.out) (by decide) hg1)
  rw [← hbo]
  have HBo := Lib.hid hbo
  clear hm1 hg1 HS HD HB0 HBx hbo
  by_cases hz : a.stop.2 = 0
  case neg =>
    have hz' : (a.stop.2 == 0) = false := by simp [hz]
    have HE := Lib.hid (show a.does o = a.stop by unfold ADk.does; rw [if_neg hz])
    clear hz
    go_wp2
    go_ret
    rw [HE.out]
    exact ⟨_, rs, rfl, HM.out.mono (fun _ => .inl), HFr.out, fun k hk => .inl (by rw [← stop_opsB]; exact hk)⟩
  have HE := Lib.hid (show a.does o = ({ a.stop.1 with ops := a.stop.1.ops ++ [o], now := a.stop.1.now.done o o.data.length }, 0) by unfold ADk.does; rw [if_pos hz, (stop_now a).1, (stop_now a).2.2])
  have HA1 := Lib.hid (stop_now a)
  have HOb := Lib.hid (stop_opsB d)
  rw [hz]
  obtain ⟨d1, hd1⟩ : ∃ x, x = (PF.stop d).1 := ⟨_, rfl⟩
  obtain ⟨a1, ha1⟩ : ∃ x, x = a.stop.1 := ⟨_, rfl⟩
  rw [← hd1] at HM HOb
  rw [← ha1] at HM HA1 HE
  clear hz hd1 ha1
  go_upto_region 4 with (fail)
  have HS4 := Lib.hid (show w1.drew.cell? ⟨b, 7, none⟩ = some (.slice d1.ops.1 d1.ops.2.1 d1.ops.2.2) ∧ (Instr.loadAt 77 (.pointer (some ⟨bo, 0, none⟩))).run Try.prog w1.drew = .ok (.agg #[.int .i64 o.f, .bool o.cut, .int .i64 o.n, .slice D.1 D.2.1 D.2.2]) w1.drew from ⟨(HM.out.below (below_drew1 (Below.refl _ _))).box.cell 7 rfl, op_ld (blk_drew HO.out)⟩)
  refine start_ (n := 11) (S := fun w' => w'.cell? ⟨b, 7, none⟩ = some (.slice d1.ops.1 d1.ops.2.1 d1.ops.2.2) ∧ (Instr.loadAt 77 (.pointer (some ⟨bo, 0, none⟩))).run Try.prog w' = .ok (.agg #[.int .i64 o.f, .bool o.cut, .int .i64 o.n, .slice D.1 D.2.1 D.2.2]) w') (ds := [10]) #[false, false, false, false, false, false, false, false, false, false, false] (by kernel_rfl) rfl rfl ⟨HS4.out.1, HS4.out.2⟩ (fun hHeld => ?_)
  refine with_tabW file_does.tab4 file_does.bits4 (fun HT_ HW_ => ?_)
  refine pure_ (i := 0) (N := some 11) (v := ?_) (a' := ?_) #[true, false, false, false, false, false, false, false, false, false, false] rfl rfl (any_of HT_.out (by kernel_rfl)) (fun _ _ _ h => h) (Or.inl ⟨by rfl, ?_⟩) ?_ ?_
  rotate_left
  · intro w'
    go_simp
    with_reducible rfl
  rotate_left
  · simp only [Act.put, List.setIfInBounds_toArray, List.set_cons_zero, List.set_cons_succ, i64_w, i32_w]
    rfl
  refine pure_ (i := 1) (N := some 12) (v := ?_) (a' := ?_) #[true, true, false, false, false, false, false, false, false, false, false] rfl rfl (any_of HT_.out (by kernel_rfl)) (fun _ _ _ h => h) (Or.inl ⟨by rfl, ?_⟩) ?_ ?_
  rotate_left
  · intro w'
    go_simp
    with_reducible rfl
  rotate_left
  · simp only [Act.put, List.setIfInBounds_toArray, List.set_cons_zero, List.set_cons_succ, i64_w, i32_w]
    rfl
  refine pure_ (i := 2) (N := some 13) (v := ?_) (a' := ?_) #[true, true, true, false, false, false, false, false, false, false, false] rfl rfl (any_of HT_.out (by kernel_rfl)) (fun _ _ _ h => h) (Or.inl ⟨by rfl, ?_⟩) ?_ ?_
  rotate_left
  · intro w'
    go_simp
    with_reducible rfl
  rotate_left
  · simp only [Act.put, List.setIfInBounds_toArray, List.set_cons_zero, List.set_cons_succ, i64_w, i32_w]
    rfl
  refine pure_ (i := 3) (N := some 14) (v := ?_) (a' := ?_) #[true, true, true, true, false, false, false, false, false, false, false] rfl rfl (any_of HT_.out (by kernel_rfl)) (fun _ _ _ h => h) (Or.inl ⟨by rfl, ?_⟩) ?_ ?_
  rotate_left
  · intro w'
    go_simp
    with_reducible rfl
  rotate_left
  · simp only [Act.put, List.setIfInBounds_toArray, List.set_cons_zero, List.set_cons_succ, i64_w, i32_w]
    rfl
  refine take_ (i := 4) (N := some 15) (v := ?_) (a' := ?_) #[true, true, true, true, true, false, false, false, false, false, false] rfl rfl (take_ofW HT_.out HW_.out (by kernel_rfl)) (fun _ _ _ h => h) (Or.inl ⟨by rfl, ?_⟩) hHeld ?_ ?_
  rotate_left
  · rintro w' ⟨s0, s1⟩
    clear s1
    go_simp
    with_reducible rfl
  rotate_left
  · simp only [Act.put, List.setIfInBounds_toArray, List.set_cons_zero, List.set_cons_succ, i64_w, i32_w]
    rfl
  refine take_ (i := 5) (N := some 16) (v := ?_) (a' := ?_) #[true, true, true, true, true, true, false, false, false, false, false] rfl rfl (take_ofW HT_.out HW_.out (by kernel_rfl)) (fun _ _ _ h => h) (Or.inl ⟨by rfl, ?_⟩) hHeld ?_ ?_
  rotate_left
  · rintro w' ⟨s0, s1⟩
    clear s0
    refine Eq.trans (exec_load (by rfl) (by rfl) s1) ?_
    with_reducible rfl
  rotate_left
  · simp only [Act.put, List.setIfInBounds_toArray, List.set_cons_zero, List.set_cons_succ, i64_w, i32_w]
    rfl
  refine one_ (i := 6) (N := some 17) #[true, true, true, true, true, true, true, false, false, false, false] rfl rfl (one_of HT_.out (by kernel_rfl)) (by decide) (fun K hK => ?_)
  refine value_ (w1 := ?_) (v := ?_) (by rfl) rfl ?_ ?_
  rotate_left 2
  · go_simp
    constructor
    · rfl
    · rfl
  have HW6 := Lib.hid (below_alloc (Below.refl w1.heap.size w1) (.cells #[.int .i64 o.f, .bool o.cut, .int .i64 o.n, .slice D.1 D.2.1 D.2.2] 77))
  replace HS4 := Lib.hid (show ((w1.alloc (.cells #[.int .i64 o.f, .bool o.cut, .int .i64 o.n, .slice D.1 D.2.1 D.2.2] 77)).drew).cell? ⟨b, 7, none⟩ = some (.slice d1.ops.1 d1.ops.2.1 d1.ops.2.2) ∧ (Instr.loadAt 77 (.pointer (some ⟨bo, 0, none⟩))).run Try.prog ((w1.alloc (.cells #[.int .i64 o.f, .bool o.cut, .int .i64 o.n, .slice D.1 D.2.1 D.2.2] 77)).drew) = .ok (.agg #[.int .i64 o.f, .bool o.cut, .int .i64 o.n, .slice D.1 D.2.1 D.2.2]) ((w1.alloc (.cells #[.int .i64 o.f, .bool o.cut, .int .i64 o.n, .slice D.1 D.2.1 D.2.2] 77)).drew) from ⟨(HM.out.below (below_drew1 HW6.out)).box.cell 7 rfl, op_ld (blk_drew (blk_below HO.out HW6.out))⟩)
  refine hK.out _ _ ⟨HS4.out.1, HS4.out.2⟩ (fun hHeld => ?_)
  clear hK K
  refine norm_ (a' := ?_) ?_ ?_
  rotate_left
  · show Act.put _ (some 17) _ = _
    simp only [Act.put, List.setIfInBounds_toArray, List.set_cons_zero, List.set_cons_succ, i64_w, i32_w]
    rfl
  refine one_ (i := 7) (N := some 18) #[true, true, true, true, true, true, true, true, false, false, false] rfl rfl (one_of HT_.out (by kernel_rfl)) (by decide) (fun K hK => ?_)
  rw [show (w1.alloc (.cells #[.int .i64 o.f, .bool o.cut, .int .i64 o.n, .slice D.1 D.2.1 D.2.2] 77)).drew = w1.drew.alloc (.cells #[.int .i64 o.f, .bool o.cut, .int .i64 o.n, .slice D.1 D.2.1 D.2.2] 77) from rfl]
  refine Kd.R_append_step kOp (w0 := w1.drew) (W := w1.drew) 0 (by rfl) (.tmp 15) (.tmp 17) 62 77 (.agg #[.int .i64 0, .bool false, .int .i64 0, .slice none 0 0]) 48 rfl Try.underlying62 infoOpZ rfl (by decide) (by decide) (.slice d1.ops.1 d1.ops.2.1 d1.ops.2.2) rs (((o.f : Int), o.cut, (o.n : Int), D) : Rop) [.int .i64 o.f, .bool o.cut, .int .i64 o.n, .slice D.1 D.2.1 D.2.2] (fun _ => True) (fun _ => False) rfl rfl ⟨_, _, rfl, rfl, _, _, rfl, rfl, _, _, rfl, rfl, rfl⟩ (fun _ hk => hk.elim) (fun _ _ => trivial) (Kd.R_mono (Kd.R_drew HM.out.ops) (fun _ _ => trivial)) (Below.refl _ _) (Nat.zero_le _) (by have := HRel.out; have := HK.out.2; omega) ?_
  intro v2 w2 ho hb hg hat
  obtain ⟨A2, c2, hv2⟩ := Kd.R_slice ho
  have hb2 : DB w2 b d1 := (hg.block b (blk_lt (HM.out.below (below_drew1 (Below.refl _ _))).box) (HM.out.below (below_drew1 (Below.refl _ _))).ops_ne).trans (HM.out.below (below_drew1 (Below.refl _ _))).box
  have HO2 : Hid (w2.heap[bo]? = some (.cells #[.int .i64 o.f, .bool o.cut, .int .i64 o.n, .slice D.1 D.2.1 D.2.2] 77 (0, 0))) := Lib.hid ((hg.block bo (blk_lt (blk_drew HO.out)) (by intro e; have e' := HLT.out.1 bo (by rw [← HOb.out]; exact e.symm); have := HBo.out; omega)).trans (blk_drew HO.out))
  generalize hn2 : (rs ++ [(((o.f : Int), o.cut, (o.n : Int), D) : Rop)]).length = n2 at hv2
  subst hv2
  have HP := Lib.hid ((HM.out.below (below_drew1 (Below.refl _ _))).push (o := o) ho hg ⟨rfl, rfl, rfl, HDm.out.below (below_drew1 (Below.refl _ _))⟩)
  have HG2 := Lib.hid (And.intro hg hat)
  have z7 : w2.frozen? ⟨b, 7, none⟩ = false := blk_frozen hb2 7
  have c7 : w2.cell? ⟨b, 7, none⟩ = some (.slice d1.ops.1 d1.ops.2.1 d1.ops.2.2) := hb2.cell 7 rfl
  clear ho hb hg hat hn2 hb2
  refine hK.out _ _ ⟨c7, op_ld HO2.out⟩ (fun hHeld => ?_)
  clear hK K
  refine norm_ (a' := ?_) ?_ ?_
  rotate_left
  · show Act.put _ (some 18) _ = _
    simp only [Act.put, List.setIfInBounds_toArray, List.set_cons_zero, List.set_cons_succ, i64_w, i32_w]
    rfl
  refine pure_ (i := 8) (N := some 19) (v := ?_) (a' := ?_) #[true, true, true, true, true, true, true, true, true, false, false] rfl rfl (any_of HT_.out (by kernel_rfl)) (fun _ _ _ h => h) (Or.inl ⟨by rfl, ?_⟩) ?_ ?_
  rotate_left
  · intro w'
    go_simp
    with_reducible rfl
  rotate_left
  · simp only [Act.put, List.setIfInBounds_toArray, List.set_cons_zero, List.set_cons_succ, i64_w, i32_w]
    rfl
  refine pure_ (i := 9) (N := some 20) (v := ?_) (a' := ?_) #[true, true, true, true, true, true, true, true, true, true, false] rfl rfl (any_of HT_.out (by kernel_rfl)) (fun _ _ _ h => h) (Or.inl ⟨by rfl, ?_⟩) ?_ ?_
  rotate_left
  · intro w'
    go_simp
    with_reducible rfl
  rotate_left
  · simp only [Act.put, List.setIfInBounds_toArray, List.set_cons_zero, List.set_cons_succ, i64_w, i32_w]
    rfl
  refine last_ (i := 10) (N := none) #[true, true, true, true, true, true, true, true, true, true, true] rfl rfl (one_of HT_.out (by kernel_rfl)) (by decide) (fun K hK => ?_)
  refine skip_ (w1 := ?_) (by rfl) rfl ?_ ?_
  rotate_left
  · go_simp
    rfl
  refine hK.out _ _ ?_
  clear hK K
  refine done_ (done_of HT_.out (by kernel_rfl)) ?_
  
  generalize hw3 : w2.setCell ⟨b, 7, none⟩ (.slice A2 n2 c2) = w3
  have hP : Mem w3 b ok { d1 with ops := (A2, n2, c2) } (rs ++ [(((o.f : Int), o.cut, (o.n : Int), D) : Rop)]) { a1 with ops := a1.ops ++ [o] } := by rw [← hw3]; exact HP.out
  have HO3 : Hid (w3.heap[bo]? = some (.cells #[.int .i64 o.f, .bool o.cut, .int .i64 o.n, .slice D.1 D.2.1 D.2.2] 77 (0, 0))) := Lib.hid (by rw [← hw3]; exact blk_far HO2.out (by show bo ≠ b; have := HLT.out.2; have := HBo.out; omega) _)
  have HFr3 : Hid (Fr w w3 (fun k => k = b ∨ some k = d.opsB)) := Lib.hid (by
    rw [← hw3]
    refine (HFr.out.drew.then_ (Fr.of_grown HG2.out.1) (fun k hk => .inl (.inr ?_))).then_ (Fr.of_grown (grown_set 7 _)) (fun k hk => .inl (.inl (by injection hk)))
    rw [hk, ← HOb.out])
  have HDm3 : Hid (By ok w3 D o.data) := Lib.hid (by
    rw [← hw3]
    have hM' := HM.out.below (below_drew1 (Below.refl _ _))
    have hb2 : DB w2 b d1 := (HG2.out.1.block b (blk_lt hM'.box) hM'.ops_ne).trans hM'.box
    exact By.box (By.over (HDm.out.below (below_drew1 (Below.refl _ _))) hM'.ops (by decide) HG2.out.1) hb2 (by decide) (grown_set 7 _))
  have HOp : Hid (∀ k, (Value.slice A2 n2 c2).ownBlock = some k → d.opsB = some k ∨ w.heap.size ≤ k) := Lib.hid (by
    intro k hk
    rcases HG2.out.2 with e | ⟨x, e, hx⟩
    · exact .inl (by rw [← HOb.out]; exact e.symm.trans hk)
    · rw [e] at hk
      injection hk with hk
      have := HFr.out.size
      exact .inr (by rw [← hk]; exact Nat.le_trans this hx))
  obtain ⟨d2, hd2⟩ : ∃ x, x = ({ d1 with ops := (A2, n2, c2) } : Dk) := ⟨_, rfl⟩
  obtain ⟨a2, ha2⟩ : ∃ x, x = ({ a1 with ops := a1.ops ++ [o] } : ADk) := ⟨_, rfl⟩
  have HE2 : Hid (a.does o = ({ a2 with now := a2.now.done o o.data.length }, 0)) := Lib.hid (by rw [HE.out, ha2])
  have HOp2 : Hid (∀ k, d2.opsB = some k → d.opsB = some k ∨ w.heap.size ≤ k) := Lib.hid (by rw [hd2]; exact HOp.out)
  have HN2 : Hid (a2.now = a.now) := Lib.hid (by rw [ha2]; exact HA1.out.1)
  rw [← hd2, ← ha2] at hP
  have HP3 := Lib.hid hP
  have HDl := Lib.hid (HDm3.out.reads.1)
  have HDn := Lib.hid (done_calls (hP.below (below_drew1 (Below.refl _ _))).now o D (HDm3.out.below (below_drew1 (Below.refl _ _))) (by rw [HN2.out]; exact HK.out.1) D.2.1)
  have HSz := Lib.hid HFr3.out.size
  have HDi := Lib.hid (show D.2.1 ≤ 9223372036854775807 by rw [HDl.out]; have := HK.out.1.data; omega)
  have hDi := HDi.out
  clear hw3 hP hd2 ha2 HP HO2 HO HG2 HDm HM HFr HOp HE HA1 HOb z7 c7 HG HS4 HW6
  go_upto_region 5 with (fail)
  have HS5 := Lib.hid (show (Instr.loadAt 61 (.pointer (some ⟨b, 1, none⟩))).run Try.prog w3.drew = .ok d2.now.agg w3.drew ∧ (Instr.loadAt 77 (.pointer (some ⟨bo, 0, none⟩))).run Try.prog w3.drew = .ok (.agg #[.int .i64 o.f, .bool o.cut, .int .i64 o.n, .slice D.1 D.2.1 D.2.2]) w3.drew ∧ w3.drew.cell? ⟨bo, 3, none⟩ = some (.slice D.1 D.2.1 D.2.2) from ⟨(HP3.out.below (below_drew1 (Below.refl _ _))).box.ld_now, op_ld (blk_drew HO3.out), (blk_cell (blk_drew HO3.out) 3).trans rfl⟩)
  refine start_ (n := 13) (S := fun w' => (Instr.loadAt 61 (.pointer (some ⟨b, 1, none⟩))).run Try.prog w' = .ok d2.now.agg w' ∧ (Instr.loadAt 77 (.pointer (some ⟨bo, 0, none⟩))).run Try.prog w' = .ok (.agg #[.int .i64 o.f, .bool o.cut, .int .i64 o.n, .slice D.1 D.2.1 D.2.2]) w' ∧ w'.cell? ⟨bo, 3, none⟩ = some (.slice D.1 D.2.1 D.2.2)) (ds := [12]) #[false, false, false, false, false, false, false, false, false, false, false, false, false] (by kernel_rfl) rfl rfl ⟨HS5.out.1, HS5.out.2.1, HS5.out.2.2⟩ (fun hHeld => ?_)
  refine with_tabW file_does.tab5 file_does.bits5 (fun HT_ HW_ => ?_)
  refine pure_ (i := 0) (N := some 21) (v := ?_) (a' := ?_) #[true, false, false, false, false, false, false, false, false, false, false, false, false] rfl rfl (any_of HT_.out (by kernel_rfl)) (fun _ _ _ h => h) (Or.inl ⟨by rfl, ?_⟩) ?_ ?_
  rotate_left
  · intro w'
    go_simp
    with_reducible rfl
  rotate_left
  · simp only [Act.put, List.setIfInBounds_toArray, List.set_cons_zero, List.set_cons_succ, i64_w, i32_w]
    rfl
  refine pure_ (i := 1) (N := some 22) (v := ?_) (a' := ?_) #[true, true, false, false, false, false, false, false, false, false, false, false, false] rfl rfl (any_of HT_.out (by kernel_rfl)) (fun _ _ _ h => h) (Or.inl ⟨by rfl, ?_⟩) ?_ ?_
  rotate_left
  · intro w'
    go_simp
    with_reducible rfl
  rotate_left
  · simp only [Act.put, List.setIfInBounds_toArray, List.set_cons_zero, List.set_cons_succ, i64_w, i32_w]
    rfl
  refine pure_ (i := 2) (N := some 23) (v := ?_) (a' := ?_) #[true, true, true, false, false, false, false, false, false, false, false, false, false] rfl rfl (any_of HT_.out (by kernel_rfl)) (fun _ _ _ h => h) (Or.inl ⟨by rfl, ?_⟩) ?_ ?_
  rotate_left
  · intro w'
    go_simp
    with_reducible rfl
  rotate_left
  · simp only [Act.put, List.setIfInBounds_toArray, List.set_cons_zero, List.set_cons_succ, i64_w, i32_w]
    rfl
  refine pure_ (i := 3) (N := some 24) (v := ?_) (a' := ?_) #[true, true, true, true, false, false, false, false, false, false, false, false, false] rfl rfl (any_of HT_.out (by kernel_rfl)) (fun _ _ _ h => h) (Or.inl ⟨by rfl, ?_⟩) ?_ ?_
  rotate_left
  · intro w'
    go_simp
    with_reducible rfl
  rotate_left
  · simp only [Act.put, List.setIfInBounds_toArray, List.set_cons_zero, List.set_cons_succ, i64_w, i32_w]
    rfl
  refine pure_ (i := 6) (N := some 27) (v := ?_) (a' := ?_) #[true, true, true, true, false, false, true, false, false, false, false, false, false] rfl rfl (any_of HT_.out (by kernel_rfl)) (fun _ _ _ h => h) (Or.inl ⟨by rfl, ?_⟩) ?_ ?_
  rotate_left
  · intro w'
    go_simp
    with_reducible rfl
  rotate_left
  · simp only [Act.put, List.setIfInBounds_toArray, List.set_cons_zero, List.set_cons_succ, i64_w, i32_w]
    rfl
  refine take_ (i := 4) (N := some 25) (v := ?_) (a' := ?_) #[true, true, true, true, true, false, true, false, false, false, false, false, false] rfl rfl (take_ofW HT_.out HW_.out (by kernel_rfl)) (fun _ _ _ h => h) (Or.inl ⟨by rfl, ?_⟩) hHeld ?_ ?_
  rotate_left
  · rintro w' ⟨s0, s1, s2⟩
    clear s1 s2
    refine Eq.trans (exec_load (by rfl) (by rfl) s0) ?_
    with_reducible rfl
  rotate_left
  · simp only [Act.put, List.setIfInBounds_toArray, List.set_cons_zero, List.set_cons_succ, i64_w, i32_w]
    rfl
  refine take_ (i := 5) (N := some 26) (v := ?_) (a' := ?_) #[true, true, true, true, true, true, true, false, false, false, false, false, false] rfl rfl (take_ofW HT_.out HW_.out (by kernel_rfl)) (fun _ _ _ h => h) (Or.inl ⟨by rfl, ?_⟩) hHeld ?_ ?_
  rotate_left
  · rintro w' ⟨s0, s1, s2⟩
    clear s0 s2
    refine Eq.trans (exec_load (by rfl) (by rfl) s1) ?_
    with_reducible rfl
  rotate_left
  · simp only [Act.put, List.setIfInBounds_toArray, List.set_cons_zero, List.set_cons_succ, i64_w, i32_w]
    rfl
  refine take_ (i := 7) (N := some 28) (v := ?_) (a' := ?_) #[true, true, true, true, true, true, true, true, false, false, false, false, false] rfl rfl (take_ofW HT_.out HW_.out (by kernel_rfl)) (fun _ _ _ h => h) (Or.inl ⟨by rfl, ?_⟩) hHeld ?_ ?_
  rotate_left
  · rintro w' ⟨s0, s1, s2⟩
    clear s0 s1
    go_simp
    with_reducible rfl
  rotate_left
  · simp only [Act.put, List.setIfInBounds_toArray, List.set_cons_zero, List.set_cons_succ, i64_w, i32_w]
    rfl
  refine pure_ (i := 8) (N := some 29) (v := ?_) (a' := ?_) #[true, true, true, true, true, true, true, true, true, false, false, false, false] rfl rfl (any_of HT_.out (by kernel_rfl)) (fun _ _ _ h => h) (Or.inl ⟨by rfl, ?_⟩) ?_ ?_
  rotate_left
  · intro w'
    go_simp
    with_reducible rfl
  rotate_left
  · simp only [Act.put, List.setIfInBounds_toArray, List.set_cons_zero, List.set_cons_succ, i64_w, i32_w]
    rfl
  refine one_ (i := 9) (N := some 30) #[true, true, true, true, true, true, true, true, true, true, false, false, false] rfl rfl (one_of HT_.out (by kernel_rfl)) (by decide) (fun K hK => ?_)
  refine goes_ Try.func35 (by kernel_rfl) rfl #[d2.now.agg, .agg #[.int .i64 o.f, .bool o.cut, .int .i64 o.n, .slice D.1 D.2.1 D.2.2], .int .i64 (D.2.1 : Nat)] (by rfl) rfl rfl (by simp only [List.map_toArray, List.map_cons, List.map_nil]; rfl) ?_
  with_reducible refine (HDn.out).mono ?_
  rintro e w4 ⟨ss, rfl, h3, hb4⟩
  refine ⟨_, rfl, ?_⟩
  have H3 := Lib.hid h3
  have HB4 := Lib.hid hb4
  have HP4 := Lib.hid ((HP3.out.below (below_drew1 (Below.refl _ _))).below hb4)
  have HO4 := Lib.hid (blk_below (blk_drew HO3.out) hb4)
  clear h3 hb4
  refine hK.out _ _ ⟨HP4.out.box.ld_now, op_ld HO4.out, (blk_cell HO4.out 3).trans rfl⟩ (fun hHeld => ?_)
  clear hK K
  refine norm_ (a' := ?_) ?_ ?_
  rotate_left
  · show Act.put _ (some 30) _ = _
    simp only [Act.put, List.setIfInBounds_toArray, List.set_cons_zero, List.set_cons_succ, i64_w, i32_w]
    rfl
  refine pure_ (i := 10) (N := some 31) (v := ?_) (a' := ?_) #[true, true, true, true, true, true, true, true, true, true, true, false, false] rfl rfl (any_of HT_.out (by kernel_rfl)) (fun _ _ _ h => h) (Or.inl ⟨by rfl, ?_⟩) ?_ ?_
  rotate_left
  · intro w'
    go_simp
    with_reducible rfl
  rotate_left
  · simp only [Act.put, List.setIfInBounds_toArray, List.set_cons_zero, List.set_cons_succ, i64_w, i32_w]
    rfl
  refine pure_ (i := 11) (N := some 32) (v := ?_) (a' := ?_) #[true, true, true, true, true, true, true, true, true, true, true, true, false] rfl rfl (any_of HT_.out (by kernel_rfl)) (fun _ _ _ h => h) (Or.inl ⟨by rfl, ?_⟩) ?_ ?_
  rotate_left
  · intro w'
    go_simp
    with_reducible rfl
  rotate_left
  · simp only [Act.put, List.setIfInBounds_toArray, List.set_cons_zero, List.set_cons_succ, i64_w, i32_w]
    rfl
  refine last_ (i := 12) (N := none) #[true, true, true, true, true, true, true, true, true, true, true, true, true] rfl rfl (one_of HT_.out (by kernel_rfl)) (by decide) (fun K hK => ?_)
  refine skip_ (w1 := ?_) (by rfl) rfl ?_ ?_
  rotate_left
  · refine exec_store3 (t := 61) (p := .tmp 32) (v := .tmp 30) (b := b) (k := 1) (x := .slice ss.a.1 ss.a.2.1 ss.a.2.2) (y := .slice ss.b.1 ss.b.2.1 ss.b.2.2) (z := .slice ss.c.1 ss.c.2.1 ss.c.2.2) ?_ ?_ ?_ HP4.out.box infoFs (by show 4 ≤ 12; decide) rfl rfl rfl
    all_goals rfl
  refine hK.out _ _ ?_
  clear hK K
  refine done_ (done_of HT_.out (by kernel_rfl)) ?_
  
  have HFin := Lib.hid ((HP4.out.mono (ok' := fun k => ok k ∨ w3.heap.size ≤ k) (fun _ => .inl)).setNow H3.out)
  generalize hw5 : ((w4.setCell ⟨b, 1, none⟩ (.slice ss.a.1 ss.a.2.1 ss.a.2.2)).setCell ⟨b, 1 + 1, none⟩ (.slice ss.b.1 ss.b.2.1 ss.b.2.2)).setCell ⟨b, 1 + 1 + 1, none⟩ (.slice ss.c.1 ss.c.2.1 ss.c.2.2) = w5
  have HF5 : Hid (Fr w w5 (fun k => k = b ∨ some k = d.opsB)) := Lib.hid (by
    rw [← hw5]
    exact ((HFr3.out.drew.new HB4.out)).then_ (Fr.of_grown (grown_set3 1 _ _ _)) (fun k hk => .inl (.inl (by injection hk))))
  have HFin5 : Hid (Mem w5 b (fun k => ok k ∨ w3.heap.size ≤ k) (d2.setNow ss) (rs ++ [(((o.f : Int), o.cut, (o.n : Int), D) : Rop)]) { a2 with now := a2.now.done o D.2.1 }) := Lib.hid (by rw [← hw5]; exact HFin.out)
  clear hw5 HFin HP3 HP4 H3 HDn HS5 HO3 HO4 HB4 hDi
  go_wp2
  go_ret
  rw [HE2.out]
  refine ⟨d2.setNow ss, rs ++ [(((o.f : Int), o.cut, (o.n : Int), D) : Rop)], rfl, ?_, HF5.out, HOp2.out⟩
  rw [← HDl.out]
  exact HFin5.out.mono (fun k hk => hk.imp id (fun h => Nat.le_trans HSz.out h))
end Go.Proofs.Ytfggcdpipolahaa.PF
