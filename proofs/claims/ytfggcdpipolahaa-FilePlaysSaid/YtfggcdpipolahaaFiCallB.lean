/- A disk's calls: Read, Durable, Sync, Arm, Fail. -/
import Derived.Test.YtfggcdpipolahaaFiCall
set_option linter.unusedVariables false
set_option linter.unusedSimpArgs false
namespace Go.Proofs.Ytfggcdpipolahaa.PF
open Go.RowKit Go.Proofs.YtfggcdpipolahaaW.PrintWords Go.Proofs.YtfggcdpipolahaaW.PrintLast Go.Proofs.YtfggcdpipolahaaW.PrintMore
attribute [local go_sem] max2_int min2_int max_two min_two
theorem wl_store3 {P : Program} {ops : Array Oper} {rest : List Oper} {o : Oper} {a : Act} {Q : Exit → Act → World → Prop} (t : TypeId) (p v : Operand) {W : World} {b k : Nat} {t0 : TypeId} {old : Array Value} {x y z : Value} (ho : o.op = .store t p v) (hgd : o.guard = none) (hp : a.eval p = .pointer (some ⟨b, k, none⟩)) (hv : a.eval v = .agg #[x, y, z]) (hg : W.heap[b]? = some (.cells old t0 (0, 0)))
    (hi : (P.info? t).map (·.size) = some 3) (hk : k + 3 ≤ old.size) (h1 : x.oneCell' = true) (h2 : y.oneCell' = true) (h3 : z.oneCell' = true)
    (h : wpList P ops Q rest (a.put o.dst undef) (((W.setCell ⟨b, k, none⟩ x).setCell ⟨b, k + 1, none⟩ y).setCell ⟨b, k + 1 + 1, none⟩ z)) : wpList P ops Q (o :: rest) a W :=
  wpList_plain hgd fun K hK => by
    unfold Oper.wp
    rw [exec_store3 ho hp hv hg hi hk h1 h2 h3]
    exact hK _ _ h
section
variable {w : World} {b : Nat} {ok : Nat → Prop} {d : Dk} {rs : List Rop} {a : ADk}
theorem Mem.noOps (h : Mem w b ok d rs a) : Mem (w.setCell ⟨b, 7, none⟩ (.slice none 0 0)) b ok { d with ops := (none, 0, 0) } [] { a with ops := [] } :=
  h.rebox (grown_set 7 _) (h.box.set 7 _ rfl) h.now h.safe (Kd.R_nil kOp 77 w 0 _) trivial h.down h.arm h.fail h.wth
theorem Mem.setDown (h : Mem w b ok d rs a) (x : Bool) : Mem (w.setCell ⟨b, 8, none⟩ (.bool x)) b ok { d with down := x } rs { a with down := x } :=
  h.rebox (grown_set 8 _) (h.box.set 8 _ rfl) h.now h.safe h.ops h.rel rfl h.arm h.fail h.wth
theorem Mem.setArm (h : Mem w b ok d rs a) (x : Int) : Mem (w.setCell ⟨b, 9, none⟩ (.int .i64 x)) b ok { d with arm := x } rs { a with arm := x } :=
  h.rebox (grown_set 9 _) (h.box.set 9 _ rfl) h.now h.safe h.ops h.rel h.down rfl h.fail h.wth
theorem Mem.setFail (h : Mem w b ok d rs a) (x : Int) : Mem (w.setCell ⟨b, 10, none⟩ (.int .i64 x)) b ok { d with fail := x } rs { a with fail := x } :=
  h.rebox (grown_set 10 _) (h.box.set 10 _ rfl) h.now h.safe h.ops h.rel h.down h.arm rfl h.wth
theorem Mem.setWth (h : Mem w b ok d rs a) (x : Int) : Mem (w.setCell ⟨b, 11, none⟩ (.int .i64 x)) b ok { d with wth := x } rs { a with wth := x } :=
  h.rebox (grown_set 11 _) (h.box.set 11 _ rfl) h.now h.safe h.ops h.rel h.down h.arm h.fail rfl
end
/-- What a call that reads leaves. -/
def PostR (w : World) (x : List Int) (z : Int) (e : Ending) (w' : World) : Prop := ∃ A c, e = .returned (.tuple #[.slice A x.length c, .int .i64 z]) ∧ Kd.R ku8 5 w' w.heap.size (fun _ => True) (.slice A x.length c) x ∧ Below w.heap.size w w'
theorem PostR.none_ (w : World) (z : Int) : PostR w [] z (.returned (.tuple #[.slice none 0 0, .int .i64 z])) w := ⟨none, 0, rfl, Kd.R_nil _ _ _ _ _, Below.refl _ _⟩
def ADk.read (a : ADk) (f : Int) : List Int × Int := if 0 ≤ f ∧ f < 3 then (if a.down = true then ([], 6) else (a.now.get f.toNat, 0)) else ([], 2)
def ADk.durable (a : ADk) (f : Int) : List Int × Int := if 0 ≤ f ∧ f < 3 then (a.safe.get f.toNat, 0) else ([], 2)
set_option maxRecDepth 100000 in
set_option maxHeartbeats 4000000 in
theorem read_calls {w : World} {b : Nat} {ok : Nat → Prop} {d : Dk} {rs : List Rop} {a : ADk} (h : Mem w b ok d rs a) (hq : a.Fit) (f : Int) :
    Calls Try.prog 12 #[.pointer (some ⟨b, 0, none⟩), .int .i64 f] w (PostR w (a.read f).1 (a.read f).2) := by
  have c8 : w.cell? ⟨b, 8, none⟩ = some (.bool d.down) := h.box.cell 8 rfl
  rw [h.down] at c8
  by_cases hf : 0 ≤ f ∧ f < 3
  case neg =>
    have HW := Lib.hid (wrong_out h.box f hf)
    have HE := Lib.hid (show a.read f = ([], 2) by unfold ADk.read; rw [if_neg hf])
    clear h hq hf
    go_enter Try.func12, Try.ntmps12
    go_wp2_with fail
    refine HW.out.mono ?_
    rintro e w1 ⟨rfl, rfl⟩
    go_wp2
    go_ret2
    rw [HE.out]
    exact PostR.none_ _ _
  obtain ⟨m, rfl⟩ : ∃ m : Nat, f = m := ⟨f.toNat, by omega⟩
  have hm : m < 3 := by omega
  have HW := Lib.hid (wrong_in h.box m hm)
  cases hd : a.down with
  | true =>
    rw [hd] at c8
    have HE := Lib.hid (show a.read m = ([], 6) by unfold ADk.read; rw [if_pos hf, if_pos hd])
    clear h hq hf hd hm
    go_enter Try.func12, Try.ntmps12
    go_wp2_with fail
    refine HW.out.mono ?_
    rintro e w1 ⟨rfl, rfl⟩
    go_wp2
    go_ret2
    rw [HE.out]
    exact PostR.none_ _ _
  | false =>
    rw [hd] at c8
    have HE := Lib.hid (show a.read m = (a.now.get m, 0) by unfold ADk.read; rw [if_pos hf, if_neg (by rw [hd]; decide), Int.toNat_natCast])
    have gc := h.cellNow m hm
    have HC := Lib.hid (Gen.clone5 ku8 rfl flat8 _ _ _ w (h.now.get m).reads.2.2 (h.now.get m).reads.2.1 (by have := hq.len m; omega))
    have key : m = 0 ∨ m = 1 ∨ m = 2 := by omega
    clear h hq hf hd hm
    rw [HE.out]
    show Calls _ _ _ _ (PostR w (a.now.get m) 0)
    rcases key with rfl | rfl | rfl
    all_goals (
      simp only [Nat.reduceAdd] at gc
      go_enter Try.func12, Try.ntmps12
      go_wp2_with fail
      refine HW.out.mono ?_
      rintro e w1 ⟨rfl, rfl⟩
      go_wp2_with fail
      refine HC.out.mono ?_
      rintro e w2 ⟨v2, rfl, hr2, hb2⟩
      obtain ⟨A2, c2, hv2⟩ := Kd.R_slice hr2
      subst hv2
      have HR := Lib.hid hr2
      have HB := Lib.hid hb2
      clear hr2 hb2
      go_wp2
      go_ret2
      exact ⟨A2, c2, rfl, HR.out, HB.out⟩)
set_option maxRecDepth 100000 in
set_option maxHeartbeats 4000000 in
theorem durable_calls {w : World} {b : Nat} {ok : Nat → Prop} {d : Dk} {rs : List Rop} {a : ADk} (h : Mem w b ok d rs a) (hq : ∀ f, (a.safe.get f).length ≤ 1048576) (f : Int) :
    Calls Try.prog 14 #[.pointer (some ⟨b, 0, none⟩), .int .i64 f] w (PostR w (a.durable f).1 (a.durable f).2) := by
  by_cases hf : 0 ≤ f ∧ f < 3
  case neg =>
    have HW := Lib.hid (wrong_out h.box f hf)
    have HE := Lib.hid (show a.durable f = ([], 2) by unfold ADk.durable; rw [if_neg hf])
    clear h hq hf
    go_enter Try.func14, Try.ntmps14
    go_wp2_with fail
    refine HW.out.mono ?_
    rintro e w1 ⟨rfl, rfl⟩
    go_wp2
    go_ret2
    rw [HE.out]
    exact PostR.none_ _ _
  obtain ⟨m, rfl⟩ : ∃ m : Nat, f = m := ⟨f.toNat, by omega⟩
  have hm : m < 3 := by omega
  have HW := Lib.hid (wrong_in h.box m hm)
  have HE := Lib.hid (show a.durable m = (a.safe.get m, 0) by unfold ADk.durable; rw [if_pos hf, Int.toNat_natCast])
  have gc := h.cellSafe m hm
  have HC := Lib.hid (Gen.clone5 ku8 rfl flat8 _ _ _ w (h.safe.get m).reads.2.2 (h.safe.get m).reads.2.1 (by have := hq m; omega))
  have key : m = 0 ∨ m = 1 ∨ m = 2 := by omega
  clear h hq hf hm
  rw [HE.out]
  show Calls _ _ _ _ (PostR w (a.safe.get m) 0)
  rcases key with rfl | rfl | rfl
  all_goals (
    simp only [Nat.reduceAdd] at gc
    go_enter Try.func14, Try.ntmps14
    go_wp2_with fail
    refine HW.out.mono ?_
    rintro e w1 ⟨rfl, rfl⟩
    go_wp2_with fail
    refine HC.out.mono ?_
    rintro e w2 ⟨v2, rfl, hr2, hb2⟩
    obtain ⟨A2, c2, hv2⟩ := Kd.R_slice hr2
    subst hv2
    have HR := Lib.hid hr2
    have HB := Lib.hid hb2
    clear hr2 hb2
    go_wp2
    go_ret2
    exact ⟨A2, c2, rfl, HR.out, HB.out⟩)
def ADk.sync (a : ADk) : ADk × Int := if a.stop.2 = 0 then ({ a.stop.1 with safe := a.now, ops := [] }, 0) else a.stop
set_option maxRecDepth 100000 in
set_option maxHeartbeats 4000000 in
theorem sync_calls {w : World} {b : Nat} {ok : Nat → Prop} {d : Dk} {rs : List Rop} {a : ADk} (h : Mem w b ok d rs a) (hn : a.Nums) :
    Calls Try.prog 13 #[.pointer (some ⟨b, 0, none⟩)] w (Post w b ok d a.sync) := by
  have H0 := Lib.hid (none_calls h.box)
  have HS := Lib.hid (stoppedM_calls h hn)
  have HD := Lib.hid h.ops_ne
  clear h hn
  go_enter Try.func13, Try.ntmps13
  go_wp2_with fail
  refine H0.out.mono ?_
  rintro e w0 ⟨rfl, rfl⟩
  go_wp2_with fail
  refine HS.out.mono ?_
  rintro e w1 ⟨rfl, hm1, hg1⟩
  have HM := Lib.hid hm1
  have HF := Lib.hid ((Fr.of_grown hg1).mono (Y := fun k => k = b ∨ some k = d.opsB) (fun k hk => .inl (by injection hk)))
  clear hm1 hg1
  by_cases hz : a.stop.2 = 0
  case neg =>
    have hz' : (a.stop.2 == 0) = false := by simp [hz]
    have HE := Lib.hid (show a.sync = a.stop by unfold ADk.sync; rw [if_neg hz])
    clear hz
    go_wp2
    go_ret
    rw [HE.out]
    exact ⟨_, rs, rfl, HM.out.mono (fun _ => .inl), HF.out, fun k hk => .inl (by rw [← stop_opsB]; exact hk)⟩
  have HE := Lib.hid (show a.sync = ({ a.stop.1 with safe := a.stop.1.now, ops := [] }, 0) by unfold ADk.sync; rw [if_pos hz, (stop_now a).1])
  rw [hz]
  obtain ⟨d1, hd1⟩ : ∃ x, x = (PF.stop d).1 := ⟨_, rfl⟩
  obtain ⟨a1, ha1⟩ : ∃ x, x = a.stop.1 := ⟨_, rfl⟩
  rw [← hd1] at HM
  rw [← ha1] at HM HE
  clear hz hd1 ha1
  go_wp2_with (first | (refine wl_load 61 (.tmp 15) rfl rfl _ _ rfl HM.out.box.ld_now ?_) | (refine wl_store3 61 (.tmp 18) (.tmp 16) (k := 4) (x := .slice d1.n0.1 d1.n0.2.1 d1.n0.2.2) (y := .slice d1.n1.1 d1.n1.2.1 d1.n1.2.2) (z := .slice d1.n2.1 d1.n2.2.1 d1.n2.2.2) rfl rfl rfl rfl HM.out.box infoFs (by show 7 ≤ 12; decide) rfl rfl rfl ?_; have HM2 := Lib.hid (HM.out.setSafe HM.out.now); have HF2 := Lib.hid (HF.out.then_ (Fr.of_grown (grown_set3 (b := b) 4 (.slice d1.n0.1 d1.n0.2.1 d1.n0.2.2) (.slice d1.n1.1 d1.n1.2.1 d1.n1.2.2) (.slice d1.n2.1 d1.n2.2.1 d1.n2.2.2))) (fun k hk => .inl (.inl (by injection hk)))); generalize ((w1.setCell ⟨b, 4, none⟩ (.slice d1.n0.1 d1.n0.2.1 d1.n0.2.2)).setCell ⟨b, 4 + 1, none⟩ (.slice d1.n1.1 d1.n1.2.1 d1.n1.2.2)).setCell ⟨b, 4 + 1 + 1, none⟩ (.slice d1.n2.1 d1.n2.2.1 d1.n2.2.2) = w2 at HM2 HF2 ⊢; have c7 : w2.cell? ⟨b, 7, none⟩ = some (.slice d1.ops.1 d1.ops.2.1 d1.ops.2.2) := HM2.out.box.cell 7 rfl; have z7 : w2.frozen? ⟨b, 7, none⟩ = false := blk_frozen HM2.out.box 7))
  go_ret
  rw [HE.out]
  refine ⟨{ (d1.setSafe d1.now) with ops := (none, 0, 0) }, [], rfl, ?_, HF2.out.then_ (Fr.of_grown (grown_set 7 _)) (fun k hk => .inl (.inl (by injection hk))), fun k hk => by simp [Dk.opsB, Value.ownBlock] at hk⟩
  exact HM2.out.noOps.mono (fun _ => .inl)
end Go.Proofs.Ytfggcdpipolahaa.PF
