/- field.Get. -/
import Derived.Test.YtnhkbjihgepapaaFdRight
import Derived.Deep.MidRow
import Derived.Laws.CopyOwn
import Derived.Laws.Tables
set_option linter.unusedVariables false
set_option linter.unusedSimpArgs false
namespace Go.Proofs.Ytnhkbjihgepapaa.Fd
open Go.RowKit Go.Proofs.YtnhkbjihgepapaaW.PrintWords Go.Proofs.YtnhkbjihgepapaaW.PrintLast Go.Proofs.YtnhkbjihgepapaaW.PrintMore Go.Proofs.Ytnhkbjihgepapaa.PF Go.Proofs.Ytnhkbjihgepapaa.Oct Go.Proofs.Ytnhkbjihgepapaa.Gen
def field_Get.T5 : Bool × List (List Nat × List Nat) := (true, [([], []), ([0], [0]), ([1], [1]), ([], []), ([3], [3]), ([4, 2], [4]), ([0, 1, 2, 3, 4], []), ([6, 2, 5, 0, 1, 2, 3, 4], [2, 6]), ([0, 1, 2, 3, 4, 5, 6, 7], []), ([8, 5, 7, 0, 1, 2, 3, 4, 5, 6, 7], [5, 8])])
def field_Get.B5 : List Nat := [0, 1, 3, 0, 8, 31, 31, 127, 255, 511]
theorem field_Get.tab5 : rtab .any (opsOf Try.f16 5) = field_Get.T5 := by kernel_rfl
theorem field_Get.bits5 : waitsOk field_Get.T5.2 field_Get.B5 = true := by kernel_rfl
theorem infoFg : (Try.prog.info? 30).map (·.size) = some 6 := by kernel_rfl
theorem exec_store {P : Program} {o : Oper} {a : Act} {t : TypeId} {p v : Operand} {W : World} {g : Nat} {t0 : TypeId} {old cells : Array Value} (ho : o.op = .store t p v) (hp : a.eval p = .pointer (some ⟨g, 0, none⟩)) (hv : a.eval v = .agg cells) (hg : W.heap[g]? = some (.cells old t0 (0, 0)))
    (hi : (P.info? t).map (·.size) = some cells.size) (hs : old.size = cells.size) (h1 : cells.all (·.oneCell') = true) : (execOp a.eval o).run P W = .ok .skip (W.setRow g cells) := by
  have h2 := run_storeVar_row (P := P) W g t0 t old cells hg hi hs h1
  unfold execOp
  rw [ho]
  simp only [hp, hv, Instr.storeAt, Instr.sureAddr, Sem.run_bind, Sem.run_pure, Result.andThen_ok, h2]
theorem wl_store {P : Program} {ops : Array Oper} {rest : List Oper} {o : Oper} {a : Act} {Q : Exit → Act → World → Prop} (t : TypeId) (p v : Operand) {W : World} {g : Nat} {t0 : TypeId} {old cells : Array Value} (ho : o.op = .store t p v) (hgd : o.guard = none) (hp : a.eval p = .pointer (some ⟨g, 0, none⟩)) (hv : a.eval v = .agg cells) (hg : W.heap[g]? = some (.cells old t0 (0, 0)))
    (hi : (P.info? t).map (·.size) = some cells.size) (hs : old.size = cells.size) (h1 : cells.all (·.oneCell') = true)
    (h : wpList P ops Q rest (a.put o.dst undef) (W.setRow g cells)) : wpList P ops Q (o :: rest) a W :=
  wpList_plain hgd fun K hK => by
    unfold Oper.wp
    rw [exec_store ho hp hv hg hi hs h1]
    exact hK _ _ h
theorem fg_ld {w : World} {g : Nat} {C : Array Value} (h : w.heap[g]? = some (.cells C 30 (0, 0))) (hs : C.size = 6) : (Instr.loadAt 30 (.pointer (some ⟨g, 0, none⟩))).run Try.prog w = .ok (.agg C) w := by
  have hld := run_loadVar_row (P := Try.prog) w g 30 30 C (0, 0) _ h Try.underlying30 rfl (by rw [hs]; exact infoFg)
  simp only [Instr.loadAt, Instr.sureAddr, Sem.run_bind, Sem.run_pure, Result.andThen_ok, hld]
theorem keep_R {α : Type} {d : Kd α} {e base b0 : Nat} {W W' : World} {v : Value} {xs : List α} (h : d.R e W base (fun _ => True) v xs) (hk : ∀ k, base ≤ k → k < W.heap.size → W'.heap[k]? = W.heap[k]?) (hb : b0 ≤ base) : d.R e W' b0 (fun _ => True) v xs :=
  Kd.R_lower (Kd.R_mono (Kd.R_step (Kd.R_bound h) (fun k hk' hlt => hk k hk'.2.1 hlt)) (fun _ _ => trivial)) hb
def tagIs (t : Int) (x : S30) : Bool := x.f0 == t
def getT (l : List S30) (t : Int) : Int × Int × Int × ByteArray × List Int × List ByteArray × Bool := match l.find? (tagIs t) with
  | some x => (x.f0, x.f1, x.f2, x.f3, x.f4, x.f5, true)
  | none => (0, 0, 0, ⟨#[]⟩, [], [], false)
def okGet (l : List S30) : Bool := l.all (fun x => decide (x.f4.length * 8 ≤ 140737488355328) && decide (x.f5.length * 16 ≤ 140737488355328))
set_option maxRecDepth 100000 in
theorem tag_calls (x : S30) (A4 : Option Addr) (c4 : Nat) (A5 : Option Addr) (c5 b : Nat) (t : Int) (w : World) (h : w.cell? ⟨b, 0, none⟩ = some (.int .u8 t)) :
    Calls Try.prog 39 #[.agg #[.int .u8 x.f0, .int .u8 x.f1, .int .i64 x.f2, .string x.f3, .slice A4 x.f4.length c4, .slice A5 x.f5.length c5], .pointer (some ⟨b, 0, none⟩)] w fun e w' => e = .returned (.bool (tagIs t x)) ∧ Below w.heap.size w w' := by
  have ho : ∀ o, (w.alloc o).cell? ⟨b, 0, none⟩ = some (.int .u8 t) := fun o => ((below_alloc (Below.refl _ w) o).cell (World.block_lt_of_cell? w _ h)).trans h
  have HB := Lib.hid (below_alloc (Below.refl _ w) (.cells #[.int .u8 x.f0, .int .u8 x.f1, .int .i64 x.f2, .string x.f3, .slice A4 x.f4.length c4, .slice A5 x.f5.length c5] 30))
  clear h
  go_enter Try.func39, Try.ntmps39
  go_wp2
  go_ret
  exact ⟨rfl, HB.out⟩
theorem find_idx {l : List S30} {p : S30 → Bool} {j : Nat} (hj : j < l.length) (h : idxOf l p = (j : Int)) : l.find? p = some l[j] := by
  unfold idxOf at h
  split at h
  · have e : l.findIdx p = j := by omega
    subst e
    rw [List.find?_eq_some_iff_getElem]
    exact ⟨List.findIdx_getElem (w := hj), l.findIdx p, hj, rfl, fun i hi => by simpa using List.not_of_lt_findIdx hi⟩
  · omega
theorem find_no {l : List S30} {p : S30 → Bool} (h : l.any p = false) : l.find? p = none := by
  rw [List.find?_eq_none]
  exact fun x hx => by simpa using List.any_eq_false.1 h x hx
theorem flatI : Flat (Kd.int .i64) := fun _ _ _ _ _ h => h
theorem flatS : Flat Kd.string := fun _ _ _ _ _ h => h
set_option maxRecDepth 100000 in
set_option maxHeartbeats 8000000 in
theorem get_calls (l : List S30) (A : Option Addr) (c : Nat) (t : Int) (w : World) (hr : Kd.C k30 w A l.length l) (hc : l.length ≤ c) (hok : okGet l = true) :
    Calls Try.prog 16 #[.slice A l.length c, .int .u8 t] w fun e w' => ∃ v4_ v5_ : Value, e = .returned (.tuple #[.agg #[.int .u8 (getT l t).1, .int .u8 (getT l t).2.1, .int .i64 (getT l t).2.2.1, .string (getT l t).2.2.2.1, v4_, v5_], .bool (getT l t).2.2.2.2.2.2]) ∧ Kd.R (Kd.int .i64) 2 w' w.heap.size (fun _ => True) v4_ (getT l t).2.2.2.2.1 ∧ Kd.R Kd.string 9 w' w.heap.size (fun _ => True) v5_ (getT l t).2.2.2.2.2.1 ∧ Below w.heap.size w w' := by
  have he : ∀ args w, (callFunc 39 args).run Try.prog w = .ok (.enter 39 args) w := enters_of Try.func39 (by kernel_rfl) rfl
  have hmf : ∀ (fn : Fn) (first cap : Array Value) (w : World), (Instr.makeFunc fn first cap).run Try.prog w = .ok (.func fn first cap) w := fun _ _ _ _ => rfl
  have H := Lib.hid (fun (W : World) (hW : Below w.heap.size w W) (b : Nat) (h1 : W.cell? ⟨b, 0, none⟩ = some (.int .u8 t)) =>
    index30 k30 rfl l A c W 39 #[.pointer (some ⟨b, 0, none⟩)] (tagIs t) (Kd.C_below hr hW) hc he (fun x _ cs w' hb hK => by
      obtain ⟨A4, c4, A5, c5, rfl, _⟩ := k30_open hK
      exact tag_calls x A4 c4 A5 c5 b t w' ((hb.cell (World.block_lt_of_cell? W _ h1)).trans h1)))
  have hlen : l.length ≤ 9223372036854775807 := hr.2.1
  have HR := Lib.hid hr
  have HOK := Lib.hid hok
  obtain ⟨n, hn⟩ : ∃ n, n = l.length := ⟨_, rfl⟩
  rw [← hn] at H hlen ⊢
  have HN := Lib.hid hn
  clear hr hc he hok hn
  have hb1 := below_alloc (Below.refl w.heap.size w) (.cells #[.int .u8 t] 5)
  have hb2 := below_alloc hb1 (.cells #[.int .u8 0, .int .u8 0, .int .i64 0, .string ⟨#[]⟩, .slice none 0 0, .slice none 0 0] 30)
  have e1 := heap_alloc_new w (.cells #[.int .u8 t] 5)
  have e2 := heap_alloc_new (w.alloc (.cells #[.int .u8 t] 5)) (.cells #[.int .u8 0, .int .u8 0, .int .i64 0, .string ⟨#[]⟩, .slice none 0 0, .slice none 0 0] 30)
  have e3 := blk_below e1 (below_alloc (Below.refl (w.alloc (.cells #[.int .u8 t] 5)).heap.size (w.alloc (.cells #[.int .u8 t] 5))) (.cells #[.int .u8 0, .int .u8 0, .int .i64 0, .string ⟨#[]⟩, .slice none 0 0, .slice none 0 0] 30))
  have es : (w.alloc (.cells #[.int .u8 t] 5)).heap.size = w.heap.size + 1 := by unfold World.alloc; simp
  rw [es] at e2
  have HB := Lib.hid hb2
  have HZ := Lib.hid e2
  have HT := Lib.hid e3
  clear hb1 hb2 e1 e2 e3 es
  go_enter Try.func16, Try.ntmps16
  go_upto_region 1 with (fail)
  generalize World.alloc _ _ = W at HB HZ HT ⊢
  obtain ⟨b, hbb⟩ : ∃ g, g = w.heap.size := ⟨_, rfl⟩
  have hbz : w.heap.size ≤ b + 1 := by omega
  rw [← hbb] at HZ HT ⊢
  have HGB := Lib.hid (And.intro hbb hbz)
  clear hbb hbz
  go_wp2_with fail
  refine (H.out W HB.out b ((blk_cell HT.out 0).trans rfl)).mono ?_
  rintro e w1 ⟨rfl, hb⟩
  have HB1 := Lib.hid (below_then HB.out HB.out.size hb)
  have HZ1 := Lib.hid (blk_below HZ.out hb)
  clear hb HB HZ HT H
  cases ha : l.any (tagIs t) with
  | false =>
    have HG : Hid (getT l t = (0, 0, 0, ⟨#[]⟩, [], [], false)) := Lib.hid (by unfold getT; rw [find_no ha])
    have hi : idxOf l (tagIs t) = -1 := by unfold idxOf; rw [ha]; rfl
    rw [hi]
    clear hi
    go_wp2_with (first | ((with_reducible refine gate_store (t := 30) (p := 4) rfl ?_); refine wl_store (old := #[.int .u8 0, .int .u8 0, .int .i64 0, .string ⟨#[]⟩, .slice none 0 0, .slice none 0 0]) (cells := #[.int .u8 0, .int .u8 0, .int .i64 0, .string ⟨#[]⟩, .slice none 0 0, .slice none 0 0]) 30 (.tmp 4) (.tmp 13) rfl rfl rfl rfl HZ1.out infoFg rfl (by simp [Value.oneCell']) ?_) | fail)
    refine bodyPost_ret (results_ct rfl _ _ (b + 1) 30 #[.int .u8 0, .int .u8 0, .int .i64 0, .string ⟨#[]⟩, .slice none 0 0, .slice none 0 0] (0, 0) _ rfl (setRow_heap _ _ _ _ _ _ HZ1.out) Try.underlying30 rfl infoFg) rfl ?_
    rw [HG.out]
    exact ⟨_, _, rfl, Kd.R_nil _ _ _ _ _, Kd.R_nil _ _ _ _ _, below_setRow HB1.out HGB.out.2 _⟩
  | true =>
    obtain ⟨j, hj, hi⟩ := idxOf_some ha
    have HG : Hid (getT l t = (l[j].f0, l[j].f1, l[j].f2, l[j].f3, l[j].f4, l[j].f5, true)) := Lib.hid (by unfold getT; rw [find_idx hj hi])
    have HK2 : Hid (l[j].f4.length * 8 ≤ 140737488355328 ∧ l[j].f5.length * 16 ≤ 140737488355328) := Lib.hid (by
      have := List.all_eq_true.1 HOK.out l[j] (List.getElem_mem hj)
      rw [Bool.and_eq_true, decide_eq_true_iff, decide_eq_true_iff] at this
      exact this)
    rw [hi]
    clear hi ha
    obtain ⟨ad, cs, eA, hK, hld0⟩ := load_mid (t := 30) Try.underlying30 rfl infoFg HR.out j hj
    obtain ⟨x, hx⟩ : ∃ x, x = l[j] := ⟨_, rfl⟩
    rw [← hx] at hK HG HK2
    obtain ⟨A4, c4, A5, c5, rfl, hc4, hr4, hc5, hr5⟩ := k30_open hK
    have HD4 := Lib.hid (And.intro hr4 hc4)
    have HD5 := Lib.hid (And.intro hr5 hc5)
    have hjn : j < n := by rw [HN.out]; exact hj
    have hld : (Instr.loadAt 30 (.pointer (some (ad.add (j * 6))))).run Try.prog w1 = .ok (.agg #[.int .u8 x.f0, .int .u8 x.f1, .int .i64 x.f2, .string x.f3, .slice A4 x.f4.length c4, .slice A5 x.f5.length c5]) w1 := hld0 w1 HB1.out
    clear hld0 hK hr4 hc4 hr5 hc5 hx hj
    cases eA
    obtain ⟨n4, hn4⟩ : ∃ m, m = x.f4.length := ⟨_, rfl⟩
    obtain ⟨n5, hn5⟩ : ∃ m, m = x.f5.length := ⟨_, rfl⟩
    rw [← hn4, ← hn5] at hld
    have HN4 := Lib.hid (And.intro hn4 hn5)
    clear hn4 hn5
    go_upto_region 5 with ((with_reducible refine gate_ (.load 30 (.tmp 16)) rfl ?_); refine wl_load 30 (.tmp 16) rfl rfl _ _ rfl hld ?_)
    have HX : Hid ((w1.alloc (.cells #[.int .u8 x.f0, .int .u8 x.f1, .int .i64 x.f2, .string x.f3, .slice A4 n4 c4, .slice A5 n5 c5] 30)).heap[w1.heap.size]? = some (.cells #[.int .u8 x.f0, .int .u8 x.f1, .int .i64 x.f2, .string x.f3, .slice A4 n4 c4, .slice A5 n5 c5] 30 (0, 0))) := Lib.hid (heap_alloc_new w1 _)
    have hba := below_alloc (Below.refl w1.heap.size w1) (.cells #[.int .u8 x.f0, .int .u8 x.f1, .int .i64 x.f2, .string x.f3, .slice A4 n4 c4, .slice A5 n5 c5] 30)
    have HB2 := Lib.hid (below_then HB1.out HB1.out.size hba)
    have HZ2 := Lib.hid (blk_below HZ1.out hba)
    have HGX := Lib.hid (show w.heap.size ≤ w1.heap.size from HB1.out.size)
    have HNE := Lib.hid (show b + 1 < w1.heap.size from blk_lt HZ1.out)
    clear hba hld HZ1 HB1
    generalize World.alloc w1 _ = W2 at HX HB2 HZ2 ⊢
    obtain ⟨gx, hgx⟩ : ∃ y, y = w1.heap.size := ⟨_, rfl⟩
    rw [← hgx] at HX HGX HNE ⊢
    clear hgx
    have HX3 := Lib.hid (show W2.drew.heap[gx]? = _ from HX.out)
    have HB3 := Lib.hid (below_drew HB2.out)
    have HK5 := Lib.hid (fun (W : World) (hb : Below w.heap.size w W) => show Calls Try.prog 41 #[.slice A5 n5 c5] W fun e w' => ∃ v0_ : Value, e = .returned v0_ ∧ Kd.R Kd.string 9 w' W.heap.size (fun _ => True) v0_ x.f5 ∧ Below W.heap.size W w' by
      rw [HN4.out.2]
      exact clone9 Kd.string rfl flatS x.f5 A5 c5 W (Kd.C_below HD5.out.1 hb) HD5.out.2 HK2.out.2)
    have HC4 := Lib.hid (show Calls Try.prog 40 #[.slice A4 n4 c4] W2.drew fun e w' => ∃ v0_ : Value, e = .returned v0_ ∧ Kd.R (Kd.int .i64) 2 w' W2.drew.heap.size (fun _ => True) v0_ x.f4 ∧ Below W2.drew.heap.size W2.drew w' by
      rw [HN4.out.1]
      exact clone2 (Kd.int .i64) rfl flatI x.f4 A4 c4 W2.drew (Kd.C_below HD4.out.1 HB3.out) HD4.out.2 HK2.out.1)
    refine start_ (n := 10) (S := fun w' => w'.cell? ⟨gx, 4, none⟩ = some (.slice A4 n4 c4) ∧ w'.cell? ⟨gx, 5, none⟩ = some (.slice A5 n5 c5)) (ds := [7, 9]) #[false, false, false, false, false, false, false, false, false, false] (by kernel_rfl) rfl rfl ⟨(blk_cell HX3.out 4).trans rfl, (blk_cell HX3.out 5).trans rfl⟩ (fun hHeld => ?_)
    refine with_tabW field_Get.tab5 field_Get.bits5 (fun HT_ HW_ => ?_)
    refine pure_ (i := 0) (N := some 18) (v := ?_) (a' := ?_) #[true, false, false, false, false, false, false, false, false, false] rfl rfl (any_of HT_.out (by kernel_rfl)) (fun _ _ _ h => h) (Or.inl ⟨by rfl, ?_⟩) ?_ ?_
    rotate_left
    · intro w'
      go_simp
      with_reducible rfl
    rotate_left
    · simp only [Act.put, List.setIfInBounds_toArray, List.set_cons_zero, List.set_cons_succ, i64_w, i32_w]
      rfl
    refine pure_ (i := 3) (N := some 21) (v := ?_) (a' := ?_) #[true, false, false, true, false, false, false, false, false, false] rfl rfl (any_of HT_.out (by kernel_rfl)) (fun _ _ _ h => h) (Or.inl ⟨by rfl, ?_⟩) ?_ ?_
    rotate_left
    · intro w'
      go_simp
      with_reducible rfl
    rotate_left
    · simp only [Act.put, List.setIfInBounds_toArray, List.set_cons_zero, List.set_cons_succ, i64_w, i32_w]
      rfl
    refine take_ (i := 1) (N := some 19) (v := ?_) (a' := ?_) #[true, true, false, true, false, false, false, false, false, false] rfl rfl (take_ofW HT_.out HW_.out (by kernel_rfl)) (fun _ _ _ h => h) (Or.inl ⟨by rfl, ?_⟩) hHeld ?_ ?_
    rotate_left
    · rintro w' ⟨s0, s1⟩
      go_simp
      with_reducible rfl
    rotate_left
    · simp only [Act.put, List.setIfInBounds_toArray, List.set_cons_zero, List.set_cons_succ, i64_w, i32_w]
      rfl
    refine take_ (i := 4) (N := some 22) (v := ?_) (a' := ?_) #[true, true, false, true, true, false, false, false, false, false] rfl rfl (take_ofW HT_.out HW_.out (by kernel_rfl)) (fun _ _ _ h => h) (Or.inl ⟨by rfl, ?_⟩) hHeld ?_ ?_
    rotate_left
    · rintro w' ⟨s0, s1⟩
      go_simp
      with_reducible rfl
    rotate_left
    · simp only [Act.put, List.setIfInBounds_toArray, List.set_cons_zero, List.set_cons_succ, i64_w, i32_w]
      rfl
    refine one_ (i := 2) (N := some 20) #[true, true, true, true, true, false, false, false, false, false] rfl rfl (one_of HT_.out (by kernel_rfl)) (by decide) (fun K hK => ?_)
    refine goes_ Try.func40 (by kernel_rfl) rfl #[.slice A4 n4 c4] (by rfl) rfl rfl (by simp only [List.map_toArray, List.map_cons, List.map_nil]; rfl) ?_
    with_reducible refine (HC4.out).mono ?_
    rintro e W5 ⟨v4, rfl, ho, hb⟩
    refine ⟨_, rfl, ?_⟩
    obtain ⟨A6, c6, hv⟩ := Kd.R_slice ho
    rw [← HN4.out.1] at hv
    subst hv
    have HO4 := Lib.hid ho
    have HB5 := Lib.hid hb
    have HX5 := Lib.hid (blk_below HX3.out hb)
    have HC5 := Lib.hid (HK5.out W5 (below_then HB3.out HB3.out.size hb))
    clear ho hb HC4 HK5
    refine hK.out _ _ ⟨(blk_cell HX5.out 4).trans rfl, (blk_cell HX5.out 5).trans rfl⟩ (fun hHeld => ?_)
    clear hK K
    refine norm_ (a' := ?_) ?_ ?_
    rotate_left
    · show Act.put _ (some 20) _ = _
      simp only [Act.put, List.setIfInBounds_toArray, List.set_cons_zero, List.set_cons_succ, i64_w, i32_w]
      rfl
    refine pure_ (i := 6) (N := some 24) (v := ?_) (a' := ?_) #[true, true, true, true, true, false, true, false, false, false] rfl rfl (any_of HT_.out (by kernel_rfl)) (fun _ _ _ h => h) (Or.inl ⟨by rfl, ?_⟩) ?_ ?_
    rotate_left
    · intro w'
      go_simp
      with_reducible rfl
    rotate_left
    · simp only [Act.put, List.setIfInBounds_toArray, List.set_cons_zero, List.set_cons_succ, i64_w, i32_w]
      rfl
    refine one_ (i := 5) (N := some 23) #[true, true, true, true, true, true, true, false, false, false] rfl rfl (one_of HT_.out (by kernel_rfl)) (by decide) (fun K hK => ?_)
    refine goes_ Try.func41 (by kernel_rfl) rfl #[.slice A5 n5 c5] (by rfl) rfl rfl (by simp only [List.map_toArray, List.map_cons, List.map_nil]; rfl) ?_
    with_reducible refine (HC5.out).mono ?_
    rintro e W6 ⟨v5, rfl, ho, hb⟩
    refine ⟨_, rfl, ?_⟩
    obtain ⟨A7, c7, hv⟩ := Kd.R_slice ho
    rw [← HN4.out.2] at hv
    subst hv
    have HO5 := Lib.hid ho
    have HB6 := Lib.hid hb
    have HX6 := Lib.hid (blk_below HX5.out hb)
    have z4 : W6.frozen? ⟨gx, 4, none⟩ = false := blk_frozen HX6.out 4
    have z5 : W6.frozen? ⟨gx, 5, none⟩ = false := blk_frozen HX6.out 5
    clear ho hb HC5
    refine hK.out _ _ ⟨(blk_cell HX6.out 4).trans rfl, (blk_cell HX6.out 5).trans rfl⟩ (fun hHeld => ?_)
    clear hK K
    refine norm_ (a' := ?_) ?_ ?_
    rotate_left
    · show Act.put _ (some 23) _ = _
      simp only [Act.put, List.setIfInBounds_toArray, List.set_cons_zero, List.set_cons_succ, i64_w, i32_w]
      rfl
    refine last_ (i := 7) (N := none) #[true, true, true, true, true, true, true, true, false, false] rfl rfl (one_of HT_.out (by kernel_rfl)) (by decide) (fun K hK => ?_)
    refine skip_ (w1 := ?_) (by rfl) rfl ?_ ?_
    rotate_left
    · go_simp
      rfl
    refine hK.out _ _ ?_
    clear hK K
    refine pure_ (i := 8) (N := some 25) (v := ?_) (a' := ?_) #[true, true, true, true, true, true, true, true, true, false] rfl rfl (any_of HT_.out (by kernel_rfl)) (fun _ _ _ h => h) (Or.inl ⟨by rfl, ?_⟩) ?_ ?_
    rotate_left
    · intro w'
      go_simp
      with_reducible rfl
    rotate_left
    · simp only [Act.put, List.setIfInBounds_toArray, List.set_cons_zero, List.set_cons_succ, i64_w, i32_w]
      rfl
    refine last_ (i := 9) (N := none) #[true, true, true, true, true, true, true, true, true, true] rfl rfl (one_of HT_.out (by kernel_rfl)) (by decide) (fun K hK => ?_)
    refine skip_ (w1 := ?_) (by rfl) rfl ?_ ?_
    rotate_left
    · go_simp
      rfl
    refine hK.out _ _ ?_
    clear hK K
    refine done_ (done_of HT_.out (by kernel_rfl)) ?_
    
    have hgz : gx ≠ b + 1 := by have := HNE.out; omega
    have HS2 : Hid (gx < W2.drew.heap.size) := Lib.hid (blk_lt HX3.out)
    have HZ6 := Lib.hid (blk_below (blk_below (show W2.drew.heap[b + 1]? = _ from HZ2.out) HB5.out) HB6.out)
    have HB7 := Lib.hid (below_set (g := gx) (j := 5) (v := .slice A7 n5 c7) (below_set (g := gx) (j := 4) (v := .slice A6 n4 c6) (below_then (below_then HB3.out HB3.out.size HB5.out) (below_then HB3.out HB3.out.size HB5.out).size HB6.out) HGX.out) HGX.out)
    have HX7 : Hid (((W6.setCell ⟨gx, 4, none⟩ (.slice A6 n4 c6)).setCell ⟨gx, 5, none⟩ (.slice A7 n5 c7)).heap[gx]? = some (.cells #[.int .u8 x.f0, .int .u8 x.f1, .int .i64 x.f2, .string x.f3, .slice A6 n4 c6, .slice A7 n5 c7] 30 (0, 0))) := Lib.hid (blk_put (blk_put HX6.out 4 _ rfl) 5 _ rfl)
    have HZ7 := Lib.hid (blk_far (p := ⟨gx, 5, none⟩) (blk_far (p := ⟨gx, 4, none⟩) HZ6.out hgz.symm (.slice A6 n4 c6)) hgz.symm (.slice A7 n5 c7))
    have HF7 := Lib.hid (show ∀ k, k ≠ gx → ((W6.setCell ⟨gx, 4, none⟩ (.slice A6 n4 c6)).setCell ⟨gx, 5, none⟩ (.slice A7 n5 c7)).heap[k]? = W6.heap[k]? from fun k hk => (Below.heap_setCell _ ⟨gx, 5, none⟩ _ k hk).trans (Below.heap_setCell _ ⟨gx, 4, none⟩ _ k hk))
    clear HZ6 HX6 HX5 HX3 HX z4 z5 hHeld HZ2 HB2
    generalize World.setCell _ _ _ = W7 at HB7 HX7 HZ7 HF7 ⊢
    go_wp2_with (first | ((with_reducible refine gate_ (.load 30 (.tmp 7)) rfl ?_); refine wl_load 30 (.tmp 7) rfl rfl _ _ rfl (fg_ld HX7.out rfl) ?_) | ((with_reducible refine gate_store (t := 30) (p := 4) rfl ?_); refine wl_store (old := #[.int .u8 0, .int .u8 0, .int .i64 0, .string ⟨#[]⟩, .slice none 0 0, .slice none 0 0]) (cells := #[.int .u8 x.f0, .int .u8 x.f1, .int .i64 x.f2, .string x.f3, .slice A6 n4 c6, .slice A7 n5 c7]) 30 (.tmp 4) (.tmp 26) rfl rfl rfl rfl HZ7.out infoFg rfl (by simp [Value.oneCell']) ?_) | fail)
    refine bodyPost_ret (results_ct rfl _ _ (b + 1) 30 #[.int .u8 x.f0, .int .u8 x.f1, .int .i64 x.f2, .string x.f3, .slice A6 n4 c6, .slice A7 n5 c7] (0, 0) _ rfl (setRow_heap _ _ _ _ _ _ HZ7.out) Try.underlying30 rfl infoFg) rfl ?_
    rw [HG.out]
    have hw2 : w.heap.size ≤ W2.drew.heap.size := HB3.out.size
    refine ⟨_, _, rfl, keep_R HO4.out (fun k h1 h2 => ?_) hw2, keep_R HO5.out (fun k h1 h2 => ?_) (Nat.le_trans hw2 HB5.out.size), below_setRow HB7.out HGB.out.2 _⟩
    · have h3 := HS2.out
      have h4 := HNE.out
      exact (setRow_other _ _ _ _ (by omega)).trans ((HF7.out k (by omega)).trans (HB6.out.block k h2))
    · have h3 := HS2.out
      have h4 := HNE.out
      have h5 := HB5.out.size
      exact (setRow_other _ _ _ _ (by omega)).trans (HF7.out k (by omega))
end Go.Proofs.Ytnhkbjihgepapaa.Fd
