/- field.All. -/
import Derived.Test.YtnhkbjihgepapaaFdNum
import Derived.Test.YtnhkbjihgepapaaFdP0
import Derived.Deep.MidRow
set_option linter.unusedVariables false
set_option linter.unusedSimpArgs false
namespace Go.Proofs.Ytnhkbjihgepapaa.Fd
open Go.RowKit Go.Proofs.YtnhkbjihgepapaaW.PrintWords Go.Proofs.YtnhkbjihgepapaaW.PrintLast Go.Proofs.YtnhkbjihgepapaaW.PrintMore Go.Proofs.Ytnhkbjihgepapaa.PF Go.Proofs.Ytnhkbjihgepapaa.Oct Go.Proofs.Ytnhkbjihgepapaa.Gen
def field_All.T20 : Bool × List (List Nat × List Nat) := (true, [([], []), ([0], [0]), ([], []), ([2], [2]), ([3], [3]), ([4], [4]), ([1, 5, 3], [1, 5]), ([0, 1, 2, 3, 4, 5, 6], []), ([7, 6, 6, 0, 1, 2, 3, 4, 5, 6], [6, 7])])
def field_All.B20 : List Nat := [0, 1, 0, 4, 12, 28, 63, 127, 255]
theorem field_All.tab20 : rtab .any (opsOf Try.f11 20) = field_All.T20 := by kernel_rfl
theorem field_All.bits20 : waitsOk field_All.T20.2 field_All.B20 = true := by kernel_rfl
def field_All.T25 : Bool × List (List Nat × List Nat) := (true, [([], []), ([0], [0]), ([], []), ([2], [2]), ([3], [3]), ([1, 4, 3], [1, 4]), ([0, 1, 2, 3, 4, 5], []), ([6, 5, 5, 0, 1, 2, 3, 4, 5], [5, 6])])
def field_All.B25 : List Nat := [0, 1, 0, 4, 12, 31, 63, 127]
theorem field_All.tab25 : rtab .any (opsOf Try.f11 25) = field_All.T25 := by kernel_rfl
theorem field_All.bits25 : waitsOk field_All.T25.2 field_All.B25 = true := by kernel_rfl
section
variable {P : Program} {ops : Array Oper} {Q : Exit → Act → World → Prop}
/-- A closure's value is called. -/
theorem goesC_ {oi : Oper} {N : Option Tmp} {a : Act} {w : World} {K : Act → World → Prop} {f : FuncId} {fn : Func} {as' : Array Operand} {ts : Array TypeId} (x : Operand) (caps all : Array Value) (hf : P.funcs[f]? = some fn) (hname : (fn.name == "runtime.NumGoroutine") = false) (hb : fn.body.isSome = true) (args : Array Value) (hall : args ++ caps = all)
    (hw : Region.wanted oi (yielded ops a.tmps) = true) (hN : oi.dst = N) (hop : oi.op = .call { callee := .value x, args := as', argTypes := ts }) (hx : a.eval x = .func (.func f) #[] caps) (hargs : as'.map a.eval = args)
    (h : Calls P f all w fun e w' => ∃ v, e = .returned v ∧ K (a.put N v) w') : if Region.wanted oi (yielded ops a.tmps) = true then Oper.wp P oi a w K Q else K (a.put N undef) w := by
  subst hall
  refine call_ f (args ++ caps) hw hN ?_ h
  have he := enters_ hf hname hb (args ++ caps) w
  unfold execOp
  simp [hop, resolve, Deferred.ofValue, invoke, hx, hargs, he]
end
theorem infoI64 : (Try.prog.info? 2).map (fun i => (i.zero, i.size, i.bytes)) = some (some (.int .i64 0), 1, 8) := by kernel_rfl
theorem infoStr : (Try.prog.info? 9).map (fun i => (i.zero, i.size, i.bytes)) = some (some (.string ⟨#[]⟩), 1, 16) := by kernel_rfl
theorem infoFl : (Try.prog.info? 30).map (·.size) = some 6 := by kernel_rfl
def fldC (tag kind nn : Int) (s : ByteArray) (v4 v5 : Value) : Array Value := #[.int .u8 tag, .int .u8 kind, .int .i64 nn, .string s, v4, v5]
/-- The field that is being read. -/
structure FM (w W0 W : World) (bB bA bD gF : Nat) (A : Option Addr) (n c : Nat) (p : Int) (bad : Bool) (tag kind nn : Int) (s : ByteArray) (v4 v5 : Value) (ns : List Int) (ts : List ByteArray) : Prop where
  am : AM w W bB bA bD A n c p bad
  lB : bB < W0.heap.size
  lA : bA < W0.heap.size
  lD : bD < W0.heap.size
  w0 : w.heap.size ≤ W0.heap.size
  box : W.heap[gF]? = some (.cells (fldC tag kind nn s v4 v5) 30 (0, 0))
  ge : W0.heap.size ≤ gF
  r4 : Kd.R (Kd.int .i64) 2 W w.heap.size (fun k => W0.heap.size ≤ k ∧ k ≠ gF) v4 ns
  r5 : Kd.R Kd.string 9 W w.heap.size (fun k => W0.heap.size ≤ k ∧ k ≠ gF) v5 ts
  kept : Kept W0 W (SAD bA bD)
section
variable {w W0 W W2 : World} {bB bA bD gF : Nat} {A : Option Addr} {n c : Nat} {p q : Int} {bad bad2 : Bool} {tag kind nn : Int} {s : ByteArray} {v4 v5 : Value} {ns : List Int} {ts : List ByteArray}
theorem FM.lt (h : FM w W0 W bB bA bD gF A n c p bad tag kind nn s v4 v5 ns ts) : gF < W.heap.size := blk_lt h.box
theorem FM.nSAD (h : FM w W0 W bB bA bD gF A n c p bad tag kind nn s v4 v5 ns ts) {k : Nat} (hk : W0.heap.size ≤ k) : ¬ SAD bA bD k := fun e => by
  have h1 := h.lA
  have h2 := h.lD
  rcases e with rfl | rfl <;> omega
theorem FM.call (h : FM w W0 W bB bA bD gF A n c p bad tag kind nn s v4 v5 ns ts) (ha : AM w W2 bB bA bD A n c q bad2) (hk : Kept W W2 (SAD bA bD)) : FM w W0 W2 bB bA bD gF A n c q bad2 tag kind nn s v4 v5 ns ts :=
  ⟨ha, h.lB, h.lA, h.lD, h.w0, (hk.2 _ (blk_lt h.box) (h.nSAD h.ge)).trans h.box, h.ge, Kd.R_kept h.r4 hk (fun k hk => h.nSAD hk.1), Kd.R_kept h.r5 hk (fun k hk => h.nSAD hk.1), h.kept.then_ hk (fun _ e => Or.inl e)⟩
theorem FM.setN (h : FM w W0 W bB bA bD gF A n c p bad tag kind nn s v4 v5 ns ts) (x : Int) : FM w W0 (W.setCell ⟨gF, 2, none⟩ (.int .i64 x)) bB bA bD gF A n c p bad tag kind x s v4 v5 ns ts :=
  have hg : w.heap.size ≤ gF := Nat.le_trans h.w0 h.ge
  have hn := h.nSAD h.ge
  ⟨⟨below_set h.am.bel hg, h.am.gB, h.am.gA, h.am.gD, h.am.nBA, h.am.nBD, h.am.nAD, blk_far h.am.B (fun e => by have h1 := h.lB; have h2 := h.ge; have e' : bB = gF := e; omega) _, blk_far h.am.a (fun e => hn (Or.inl e.symm)) _, blk_far h.am.d (fun e => hn (Or.inr e.symm)) _⟩, h.lB, h.lA, h.lD, h.w0, blk_set h.box 2 _, h.ge, Kd.R_far h.r4 (fun k hk => hk.2) _, Kd.R_far h.r5 (fun k hk => hk.2) _, h.kept.setCell (Or.inr h.ge) _⟩
theorem FM.below (h : FM w W0 W bB bA bD gF A n c p bad tag kind nn s v4 v5 ns ts) (hb : Below W.heap.size W W2) : FM w W0 W2 bB bA bD gF A n c p bad tag kind nn s v4 v5 ns ts :=
  ⟨h.am.below hb, h.lB, h.lA, h.lD, h.w0, blk_below h.box hb, h.ge, Kd.R_below h.r4 hb, Kd.R_below h.r5 hb, h.kept.below hb⟩
theorem FM.far (h : FM w W0 W bB bA bD gF A n c p bad tag kind nn s v4 v5 ns ts) (u : Value) (i : Nat) : AM w (W.setCell ⟨gF, i, none⟩ u) bB bA bD A n c p bad :=
  have hg : w.heap.size ≤ gF := Nat.le_trans h.w0 h.ge
  have hn := h.nSAD h.ge
  ⟨below_set h.am.bel hg, h.am.gB, h.am.gA, h.am.gD, h.am.nBA, h.am.nBD, h.am.nAD, blk_far h.am.B (fun e => by have h1 := h.lB; have h2 := h.ge; have e' : bB = gF := e; omega) _, blk_far h.am.a (fun e => hn (Or.inl e.symm)) _, blk_far h.am.d (fun e => hn (Or.inr e.symm)) _⟩
theorem FM.setT (h : FM w W0 W bB bA bD gF A n c p bad tag kind nn s v4 v5 ns ts) (x : ByteArray) : FM w W0 (W.setCell ⟨gF, 3, none⟩ (.string x)) bB bA bD gF A n c p bad tag kind nn x v4 v5 ns ts :=
  ⟨h.far _ 3, h.lB, h.lA, h.lD, h.w0, blk_set h.box 3 _, h.ge, Kd.R_far h.r4 (fun k hk => hk.2) _, Kd.R_far h.r5 (fun k hk => hk.2) _, h.kept.setCell (Or.inr h.ge) _⟩
/-- Behind an append to what the field leads to. -/
theorem FM.grow (h : FM w W0 W bB bA bD gF A n c p bad tag kind nn s v4 v5 ns ts) {row : Option Nat} (hrow : ∀ k, row = some k → W0.heap.size ≤ k ∧ k ≠ gF) (hg : W.grownBy W2 row) (hb : Below w.heap.size w W2) : AM w W2 bB bA bD A n c p bad ∧ W2.heap[gF]? = some (.cells (fldC tag kind nn s v4 v5) 30 (0, 0)) ∧ Kept W0 W2 (SAD bA bD) := by
  have hne : ∀ k, k < W0.heap.size → some k ≠ row := fun k hk e => by have := (hrow k e.symm).1; omega
  have hbk : ∀ (k : Nat) (o : Obj), W.heap[k]? = some o → k < W0.heap.size → W2.heap[k]? = some o := fun k o ho hk => (hg.block k (blk_lt ho) (hne k hk)).trans ho
  exact ⟨⟨hb, h.am.gB, h.am.gA, h.am.gD, h.am.nBA, h.am.nBD, h.am.nAD, hbk _ _ h.am.B h.lB, hbk _ _ h.am.a h.lA, hbk _ _ h.am.d h.lD⟩, (hg.block gF (blk_lt h.box) (fun e => (hrow gF e.symm).2 rfl)).trans h.box, h.kept.of_grown hg (fun k hk => Or.inr (hrow k hk).1)⟩
theorem FM.grow4 (h : FM w W0 W bB bA bD gF A n c p bad tag kind nn s v4 (.slice none 0 0) ns []) {v4' : Value} {ns' : List Int} (hg : W.grownBy W2 v4.ownBlock) (hb : Below w.heap.size w W2) (hr : Kd.R (Kd.int .i64) 2 W2 w.heap.size (fun k => W0.heap.size ≤ k ∧ k ≠ gF) v4' ns') : FM w W0 (W2.setCell ⟨gF, 4, none⟩ v4') bB bA bD gF A n c p bad tag kind nn s v4' (.slice none 0 0) ns' [] := by
  obtain ⟨ha, hx, hk⟩ := h.grow (row := v4.ownBlock) h.r4.1 hg hb
  have hgF : w.heap.size ≤ gF := Nat.le_trans h.w0 h.ge
  have hn := h.nSAD h.ge
  exact ⟨⟨below_set ha.bel hgF, ha.gB, ha.gA, ha.gD, ha.nBA, ha.nBD, ha.nAD, blk_far ha.B (fun e => by have h1 := h.lB; have h2 := h.ge; have e' : bB = gF := e; omega) _, blk_far ha.a (fun e => hn (Or.inl e.symm)) _, blk_far ha.d (fun e => hn (Or.inr e.symm)) _⟩, h.lB, h.lA, h.lD, h.w0, blk_set hx 4 _, h.ge, Kd.R_far hr (fun k hk => hk.2) _, Kd.R_nil _ _ _ _ _, hk.setCell (Or.inr h.ge) _⟩
theorem FM.grow5 (h : FM w W0 W bB bA bD gF A n c p bad tag kind nn s (.slice none 0 0) v5 [] ts) {v5' : Value} {ts' : List ByteArray} (hg : W.grownBy W2 v5.ownBlock) (hb : Below w.heap.size w W2) (hr : Kd.R Kd.string 9 W2 w.heap.size (fun k => W0.heap.size ≤ k ∧ k ≠ gF) v5' ts') : FM w W0 (W2.setCell ⟨gF, 5, none⟩ v5') bB bA bD gF A n c p bad tag kind nn s (.slice none 0 0) v5' [] ts' := by
  obtain ⟨ha, hx, hk⟩ := h.grow (row := v5.ownBlock) h.r5.1 hg hb
  have hgF : w.heap.size ≤ gF := Nat.le_trans h.w0 h.ge
  have hn := h.nSAD h.ge
  exact ⟨⟨below_set ha.bel hgF, ha.gB, ha.gA, ha.gD, ha.nBA, ha.nBD, ha.nAD, blk_far ha.B (fun e => by have h1 := h.lB; have h2 := h.ge; have e' : bB = gF := e; omega) _, blk_far ha.a (fun e => hn (Or.inl e.symm)) _, blk_far ha.d (fun e => hn (Or.inr e.symm)) _⟩, h.lB, h.lA, h.lD, h.w0, blk_set hx 5 _, h.ge, Kd.R_nil _ _ _ _ _, Kd.R_far hr (fun k hk => hk.2) _, hk.setCell (Or.inr h.ge) _⟩
end
/-- What the switch leaves: the field, or that it is bad. -/
def KB (l : List Int) (r tag kind : Int) (b0 : Bool) (q : Int) (bad : Bool) (nn : Int) (s : ByteArray) (ns : List Int) (ts : List ByteArray) : Prop :=
  0 ≤ q ∧ (bad = false → b0 = false ∧ q ≤ l.length ∧ bodyF l tag kind r = some (⟨tag, kind, nn, s, ns, ts⟩, q)) ∧ (bad = true → b0 = true ∨ bodyF l tag kind r = none)
theorem nok_len {l : List Int} {r : Int} {k : Nat} (h : nok l r k = true) : 0 ≤ r ∧ r + k ≤ l.length := nok_iff.1 h
theorem kb1 {l : List Int} {r tag v : Int} {b0 : Bool} (h0 : 0 ≤ r) (hv : nok l r 8 = true → v = nv l r 8) : KB l r tag 1 b0 (r + 8) (b0 || !nok l r 8) (i64 v) ⟨#[]⟩ [] [] := by
  unfold KB bodyF
  rw [if_pos rfl]
  refine ⟨by omega, fun hb => ?_, fun hb => ?_⟩
  · rw [Bool.or_eq_false_iff, Bool.not_eq_false'] at hb
    have := nok_len hb.2
    rw [if_pos hb.2, hv hb.2]
    exact ⟨hb.1, by omega, rfl⟩
  · rw [Bool.or_eq_true, Bool.not_eq_true'] at hb
    exact hb.imp id (fun h => by rw [h]; rfl)
theorem tend_zero {l : List Int} {r : Int} (h : tok l r = false) : tend l r = 0 := by unfold tend; rw [h]; rfl
theorem tok_len {l : List Int} (hb : ∀ x ∈ l, 0 ≤ x ∧ x ≤ 255) {r : Int} (h : tok l r = true) : 0 ≤ r ∧ r + 2 ≤ tend l r ∧ tend l r ≤ l.length := by
  have h1 := (nv_range l hb r 2).1
  rw [tend_ge hb h]
  unfold tok at h
  rw [Bool.and_eq_true, decide_eq_true_iff] at h
  have := nok_len h.1
  omega
theorem tend_nn {l : List Int} (hb : ∀ x ∈ l, 0 ≤ x ∧ x ≤ 255) (r : Int) : 0 ≤ tend l r ∧ tend l r ≤ l.length := by
  cases h : tok l r with
  | true => have := tok_len hb h; omega
  | false => rw [tend_zero h]; omega
theorem kb2 {l : List Int} (hb : ∀ x ∈ l, 0 ≤ x ∧ x ≤ 255) {r tag : Int} {b0 : Bool} (h0 : 0 ≤ r) : KB l r tag 2 b0 (tend l r) (b0 || !tok l r) 0 (strOfNums (txt l r)) [] [] := by
  unfold KB bodyF
  rw [if_neg (by decide), if_pos rfl]
  have ht := tend_nn hb r
  refine ⟨ht.1, fun hb => ?_, fun hb => ?_⟩
  · rw [Bool.or_eq_false_iff, Bool.not_eq_false'] at hb
    rw [if_pos hb.2]
    exact ⟨hb.1, ht.2, rfl⟩
  · rw [Bool.or_eq_true, Bool.not_eq_true'] at hb
    exact hb.imp id (fun h => by rw [h]; rfl)
theorem kb0 {l : List Int} {r tag kind : Int} {b0 : Bool} (h0 : 0 ≤ r) (hb0 : b0 = false → r ≤ l.length) (h1 : kind ≠ 1) (h2 : kind ≠ 2) (h3 : kind ≠ 3) (h4 : kind ≠ 4) : KB l r tag kind b0 r b0 0 ⟨#[]⟩ [] [] := by
  unfold KB bodyF
  rw [if_neg h1, if_neg h2, if_neg h3, if_neg h4]
  exact ⟨h0, fun hb => ⟨hb, hb0 hb, rfl⟩, fun hb => Or.inl hb⟩
/-- What the loop over a field's numbers holds. -/
def KN (l : List Int) (r v : Int) (b0 : Bool) (q : Int) (bad : Bool) (rr : Nat) (ns : List Int) : Prop :=
  0 ≤ q ∧ q ≤ (l.length : Int) + 100 ∧ (bad = false → b0 = false ∧ nok l r 2 = true ∧ q ≤ l.length ∧ ns.length + rr ≤ 65535 ∧ nsF l (nv l r 2).toNat (r + 2) [] = nsF l rr q ns) ∧ (bad = true → b0 = true ∨ nok l r 2 = false ∨ nsF l (nv l r 2).toNat (r + 2) [] = none)
theorem kn0 {l : List Int} (hb : ∀ x ∈ l, 0 ≤ x ∧ x ≤ 255) {r v : Int} {b0 : Bool} (h0 : 0 ≤ r) (h1 : r ≤ (l.length : Int) + 10) (hv : nok l r 2 = true → v = nv l r 2) : KN l r v b0 (r + 2) (b0 || !nok l r 2) v.toNat [] := by
  refine ⟨by omega, by omega, fun hbad => ?_, fun hbad => ?_⟩
  · rw [Bool.or_eq_false_iff, Bool.not_eq_false'] at hbad
    have h2 := nok_len hbad.2
    have h3 := (nv_range l hb r 2).2
    rw [show (256 : Int) ^ 2 = 65536 by decide] at h3
    rw [hv hbad.2]
    exact ⟨hbad.1, hbad.2, by omega, by simp only [List.length_nil]; omega, rfl⟩
  · rw [Bool.or_eq_true, Bool.not_eq_true'] at hbad
    exact hbad.imp id Or.inl
theorem kn_step {l : List Int} {r v x q : Int} {b0 : Bool} {rr : Nat} {ns : List Int} (h : KN l r v b0 q false (rr + 1) ns) (hx : nok l q 8 = true → x = nv l q 8) : KN l r v b0 (q + 8) (false || !nok l q 8) rr (ns ++ [i64 x]) := by
  obtain ⟨h0, h1, h2, _⟩ := h
  obtain ⟨e1, e2, e3, e4, e5⟩ := h2 rfl
  refine ⟨by omega, by omega, fun hbad => ?_, fun hbad => ?_⟩
  · rw [Bool.false_or, Bool.not_eq_false'] at hbad
    have := nok_len hbad
    refine ⟨e1, e2, by omega, by rw [List.length_append]; simp only [List.length_cons, List.length_nil]; omega, ?_⟩
    rw [e5, nsF, if_pos hbad, hx hbad]
  · rw [Bool.false_or, Bool.not_eq_true'] at hbad
    exact Or.inr (Or.inr (by rw [e5, nsF, hbad]; rfl))
theorem kn_end {l : List Int} {r tag v q : Int} {b0 bad : Bool} {rr : Nat} {ns : List Int} (h : KN l r v b0 q bad rr ns) (hz : bad = false → rr = 0) : KB l r tag 3 b0 q bad 0 ⟨#[]⟩ ns [] := by
  obtain ⟨h0, h1, h2, h3⟩ := h
  unfold KB bodyF
  rw [if_neg (by decide), if_neg (by decide), if_pos rfl]
  refine ⟨h0, fun hb => ?_, fun hb => ?_⟩
  · obtain ⟨e1, e2, e3, e4, e5⟩ := h2 hb
    rw [if_pos e2, e5, hz hb]
    exact ⟨e1, e3, rfl⟩
  · rcases h3 hb with e | e | e
    · exact Or.inl e
    · exact Or.inr (by rw [e]; rfl)
    · refine Or.inr ?_
      split
      · rw [e]
      · rfl
/-- What the loop over a field's texts holds. -/
def KT (l : List Int) (r v : Int) (b0 : Bool) (q : Int) (bad : Bool) (rr : Nat) (ns : List ByteArray) : Prop :=
  0 ≤ q ∧ q ≤ (l.length : Int) + 100 ∧ (bad = false → b0 = false ∧ nok l r 2 = true ∧ q ≤ l.length ∧ ns.length + rr ≤ 65535 ∧ tsF l (nv l r 2).toNat (r + 2) [] = tsF l rr q ns) ∧ (bad = true → b0 = true ∨ nok l r 2 = false ∨ tsF l (nv l r 2).toNat (r + 2) [] = none)
theorem kt0 {l : List Int} (hb : ∀ x ∈ l, 0 ≤ x ∧ x ≤ 255) {r v : Int} {b0 : Bool} (h0 : 0 ≤ r) (h1 : r ≤ (l.length : Int) + 10) (hv : nok l r 2 = true → v = nv l r 2) : KT l r v b0 (r + 2) (b0 || !nok l r 2) v.toNat [] := by
  refine ⟨by omega, by omega, fun hbad => ?_, fun hbad => ?_⟩
  · rw [Bool.or_eq_false_iff, Bool.not_eq_false'] at hbad
    have h2 := nok_len hbad.2
    have h3 := (nv_range l hb r 2).2
    rw [show (256 : Int) ^ 2 = 65536 by decide] at h3
    rw [hv hbad.2]
    exact ⟨hbad.1, hbad.2, by omega, by simp only [List.length_nil]; omega, rfl⟩
  · rw [Bool.or_eq_true, Bool.not_eq_true'] at hbad
    exact hbad.imp id Or.inl
theorem kt_step {l : List Int} (hb : ∀ x ∈ l, 0 ≤ x ∧ x ≤ 255) {r v q : Int} {b0 : Bool} {rr : Nat} {ns : List ByteArray} (h : KT l r v b0 q false (rr + 1) ns) : KT l r v b0 (tend l q) (false || !tok l q) rr (ns ++ [strOfNums (txt l q)]) := by
  have ht := tend_nn hb q
  obtain ⟨h0, h1, h2, _⟩ := h
  obtain ⟨e1, e2, e3, e4, e5⟩ := h2 rfl
  refine ⟨by omega, by omega, fun hbad => ?_, fun hbad => ?_⟩
  · rw [Bool.false_or, Bool.not_eq_false'] at hbad
    refine ⟨e1, e2, by omega, by rw [List.length_append]; simp only [List.length_cons, List.length_nil]; omega, ?_⟩
    rw [e5, tsF, if_pos hbad]
  · rw [Bool.false_or, Bool.not_eq_true'] at hbad
    exact Or.inr (Or.inr (by rw [e5, tsF, hbad]; rfl))
theorem kt_end {l : List Int} {r tag v q : Int} {b0 bad : Bool} {rr : Nat} {ns : List ByteArray} (h : KT l r v b0 q bad rr ns) (hz : bad = false → rr = 0) : KB l r tag 4 b0 q bad 0 ⟨#[]⟩ [] ns := by
  obtain ⟨h0, h1, h2, h3⟩ := h
  unfold KB bodyF
  rw [if_neg (by decide), if_neg (by decide), if_neg (by decide), if_pos rfl]
  refine ⟨h0, fun hb => ?_, fun hb => ?_⟩
  · obtain ⟨e1, e2, e3, e4, e5⟩ := h2 hb
    rw [if_pos e2, e5, hz hb]
    exact ⟨e1, e3, rfl⟩
  · rcases h3 hb with e | e | e
    · exact Or.inl e
    · exact Or.inr (by rw [e]; rfl)
    · refine Or.inr ?_
      split
      · rw [e]
      · rfl
theorem add0 (ad : Addr) : ad.add (Int.toNat 0) = ad := by cases ad; rfl
theorem sz_alloc (w : World) (o : Obj) : (w.alloc o).heap.size = w.heap.size + 1 := by unfold World.alloc; simp
theorem am_start (w : World) (A : Option Addr) (m c : Nat) (b : Bool) : AM w (((w.alloc (.cells #[.slice A m c] 22)).alloc (.cells #[.int .i64 1] 3)).alloc (.cells #[.bool b] 4)) w.heap.size (w.heap.size + 1) (w.heap.size + 1 + 1) A m c 1 b := by
  have b1 := below_alloc (Below.refl (w.alloc (.cells #[.slice A m c] 22)).heap.size (w.alloc (.cells #[.slice A m c] 22))) (.cells #[.int .i64 1] 3)
  have b2 := below_alloc (Below.refl ((w.alloc (.cells #[.slice A m c] 22)).alloc (.cells #[.int .i64 1] 3)).heap.size ((w.alloc (.cells #[.slice A m c] 22)).alloc (.cells #[.int .i64 1] 3))) (.cells #[.bool b] 4)
  have e1 := heap_alloc_new w (.cells #[.slice A m c] 22)
  have e2 := heap_alloc_new (w.alloc (.cells #[.slice A m c] 22)) (.cells #[.int .i64 1] 3)
  have e3 := heap_alloc_new ((w.alloc (.cells #[.slice A m c] 22)).alloc (.cells #[.int .i64 1] 3)) (.cells #[.bool b] 4)
  rw [sz_alloc] at e2
  rw [sz_alloc, sz_alloc] at e3
  exact ⟨below_alloc (below_alloc (below_alloc (Below.refl _ _) _) _) _, Nat.le_refl _, by omega, by omega, by omega, by omega, by omega, blk_below (blk_below e1 b1) b2, blk_below e2 b2, e3⟩
/-- What the loop over the fields holds. -/
structure LA (w W : World) (bB bA bD : Nat) (A : Option Addr) (l : List Int) (c : Nat) (p : Int) (v : Value) (out : List Fl) (cnt i : Nat) : Prop where
  am : AM w W bB bA bD A l.length c p false
  row : Kd.S k30 30 W w.heap.size (fun k => ¬ SAD bA bD k ∧ k ≠ bB) v out
  lB : bB < W.heap.size
  lA : bA < W.heap.size
  lD : bD < W.heap.size
  p0 : 0 ≤ p
  p1 : p ≤ l.length
  is : allL l cnt 1 [] = allL l (cnt - i) p out
  len : out.length = i
theorem fl_ld {w : World} {g : Nat} {C : Array Value} (h : w.heap[g]? = some (.cells C 30 (0, 0))) (hs : C.size = 6) : (Instr.loadAt 30 (.pointer (some ⟨g, 0, none⟩))).run Try.prog w = .ok (.agg C) w := by
  have hld := run_loadVar_row (P := Try.prog) w g 30 30 C (0, 0) _ h Try.underlying30 rfl (by rw [hs]; exact infoFl)
  simp only [Instr.loadAt, Instr.sureAddr, Sem.run_bind, Sem.run_pure, Result.andThen_ok, hld]
theorem infoFlZ : (Try.prog.info? 30).map (fun i => (i.zero, i.size, i.bytes)) = some (some (.agg #[.int .u8 0, .int .u8 0, .int .i64 0, .string ⟨#[]⟩, .slice none 0 0, .slice none 0 0]), 6, 80) := by kernel_rfl
/-- The field that was read, off the place where it began. -/
theorem fld_of {l : List Int} (hb : ∀ x ∈ l, 0 ≤ x ∧ x ≤ 255) {p v1 v2 tg kd : Int} {b0 bad : Bool} {q nn : Int} {s : ByteArray} {ns : List Int} {ts : List ByteArray} (ht : tg = v1 % 256) (hk : kd = v2 % 256) (h1 : nok l p 1 = true → v1 = nv l p 1) (h2 : nok l (p + 1) 1 = true → v2 = nv l (p + 1) 1) (hb0 : b0 = ((false || !nok l p 1) || !nok l (p + 1) 1)) (h : KB l (p + 2) tg kd b0 q bad nn s ns ts) :
    (bad = false → oneF l p = some (⟨tg, kd, nn, s, ns, ts⟩, q)) ∧ (bad = true → oneF l p = none) := by
  have hr : ∀ (i : Int), 0 ≤ nv l i 1 ∧ nv l i 1 < 256 := fun i => nv_range l hb i 1
  unfold oneF
  cases c1 : nok l p 1 with
  | false =>
    rw [c1] at hb0
    refine ⟨fun e => ?_, fun _ => rfl⟩
    have := (h.2.1 e).1
    rw [hb0] at this
    cases this
  | true =>
    cases c2 : nok l (p + 1) 1 with
    | false =>
      rw [c1, c2] at hb0
      refine ⟨fun e => ?_, fun _ => rfl⟩
      have := (h.2.1 e).1
      rw [hb0] at this
      cases this
    | true =>
      have e1 : tg = nv l p 1 := by have := hr p; rw [ht, h1 c1]; omega
      have e2 : kd = nv l (p + 1) 1 := by have := hr (p + 1); rw [hk, h2 c2]; omega
      rw [c1, c2] at hb0
      rw [← e1, ← e2, if_pos rfl, if_pos rfl]
      exact ⟨fun e => (h.2.1 e).2.2, fun e => (h.2.2 e).resolve_left (by rw [hb0]; decide)⟩
theorem allL_some {l : List Int} {k : Nat} {p q : Int} {out : List Fl} {x : Fl} (h : oneF l p = some (x, q)) : allL l (k + 1) p out = allL l k q (out ++ [x]) := by rw [allL, h]
theorem allL_none {l : List Int} {k : Nat} {p : Int} {out : List Fl} (h : oneF l p = none) : allL l (k + 1) p out = none := by rw [allL, h]
set_option maxRecDepth 100000 in
set_option maxHeartbeats 16000000 in
theorem all_calls (A0 : Option Addr) (c0 : Nat) (l : List Int) (w : World) (hr : Kd.C (Kd.int .u8) w A0 l.length l) (hc : l.length ≤ c0) (ho : okBytes l = true) :
    Calls Try.prog 11 #[.slice A0 l.length c0] w fun e w' => ∃ v0_ : Value, e = .returned (.tuple #[v0_, .int .i64 (allF l).2]) ∧ Kd.S k30 30 w' w.heap.size (fun _ => True) v0_ (allF l).1 ∧ Below w.heap.size w w' := by
  obtain ⟨hl, hb⟩ := okBytes_iff.1 ho
  have HR := Lib.hid hr
  have HC := Lib.hid hc
  have HB := Lib.hid hb
  have HL := Lib.hid hl
  have hmf : ∀ (fn : Fn) (first cap : Array Value) (w : World), (Instr.makeFunc fn first cap).run Try.prog w = .ok (.func fn first cap) w := fun _ _ _ _ => rfl
  have he : ∀ args w, (callFunc 29 args).run Try.prog w = .ok (.enter 29 args) w := enters_of Try.func29 (by kernel_rfl) rfl
  have he2 : ∀ args w, (callFunc 31 args).run Try.prog w = .ok (.enter 31 args) w := enters_of Try.func31 (by kernel_rfl) rfl
  obtain ⟨m, hm⟩ : ∃ m, m = l.length := ⟨_, rfl⟩
  rw [← hm]
  have HM := Lib.hid hm
  clear hm hr hc ho hl hb
  by_cases hbad : m = 0 ∨ 65000 < m
  · have HF : Hid (allF l = ([], 40)) := Lib.hid (by unfold allF; rw [← HM.out, if_pos hbad])
    have HBw := Lib.hid (below_alloc (below_alloc (below_alloc (Below.refl w.heap.size w) (.cells #[.slice A0 m c0] 22)) (.cells #[.int .i64 1] 3)) (.cells #[.bool true] 4))
    rcases hbad with h0 | h0
    · subst h0
      go_enter Try.func11, Try.ntmps11
      go_wp2
      go_ret2
      exact ⟨.slice none 0 0, by rw [HF.out]; rfl, by rw [HF.out]; exact Kd.S_nil _ _ _ _ _, HBw.out⟩
    · have h1 : (65000 : Int) < (m : Int) := by omega
      have h2 : ((m : Int) == 0) = false := by simp; omega
      go_enter Try.func11, Try.ntmps11
      go_wp2
      go_ret2
      exact ⟨.slice none 0 0, by rw [HF.out]; rfl, by rw [HF.out]; exact Kd.S_nil _ _ _ _ _, HBw.out⟩
  · have h1 : ¬ (65000 : Int) < (m : Int) := by omega
    have h2 : ((m : Int) == 0) = false := by simp; omega
    have hF : allF l = judge l.length (allL l (rd l 0).toNat 1 []) := by unfold allF; rw [if_neg (by rw [← HM.out]; exact hbad)]
    have HF := Lib.hid hF
    clear hF
    have hm1 : 1 ≤ m := by omega
    have HA0 := Lib.hid (am_start w A0 m c0 false)
    have HS0 : Hid ((((w.alloc (.cells #[.slice A0 m c0] 22)).alloc (.cells #[.int .i64 1] 3)).alloc (.cells #[.bool false] 4)).heap.size = w.heap.size + 3) := Lib.hid (by rw [sz_alloc, sz_alloc, sz_alloc])
    go_enter Try.func11, Try.ntmps11
    go_upto_region 5 with (fail)
    generalize World.alloc _ _ = W1 at HA0 HS0 ⊢
    obtain ⟨bB, hbB⟩ : ∃ g, g = w.heap.size := ⟨_, rfl⟩
    rw [← hbB] at HA0 ⊢
    obtain ⟨bA, hbA⟩ : ∃ g, g = bB + 1 := ⟨_, rfl⟩
    rw [← hbA] at HA0 ⊢
    obtain ⟨bD, hbD⟩ : ∃ g, g = bA + 1 := ⟨_, rfl⟩
    rw [← hbD] at HA0 ⊢
    have HI : Hid (bB < W1.heap.size ∧ bA < W1.heap.size ∧ bD < W1.heap.size) := Lib.hid (by rw [HS0.out]; omega)
    clear HS0 hbB hbA hbD
    have cB : W1.cell? ⟨bB, 0, none⟩ = some (.slice A0 m c0) := (blk_cell HA0.out.B 0).trans rfl
    have cD : W1.cell? ⟨bD, 0, none⟩ = some (.bool false) := (blk_cell HA0.out.d 0).trans rfl
    obtain ⟨ad, hA0, hx0⟩ := Kd.at_int (Kd.C_below HR.out HA0.out.bel) 0 (by omega) (by have := HM.out; omega)
    obtain ⟨x0, hx0v⟩ : ∃ x, x = rd l 0 := ⟨_, rfl⟩
    rw [← hx0v] at hx0 HF
    have hx0b : 0 ≤ x0 ∧ x0 ≤ 255 := by
      have := HB.out (rd l ((0 : Nat) : Int)) (Low.rd_mem (by have := HM.out; omega))
      rw [hx0v]
      exact this
    clear hx0v
    cases hA0
    obtain ⟨cnt, hcnt⟩ : ∃ n : Nat, x0 = n := ⟨x0.toNat, by omega⟩
    subst hcnt
    rw [Int.toNat_natCast] at HF
    rw [← HM.out] at HF
    have hc255 : cnt ≤ 255 := by omega
    have H0 : Hid (LA w W1 bB bA bD (some ad) l c0 1 (.slice none 0 0) [] cnt 0) := Lib.hid ⟨by rw [← HM.out]; exact HA0.out, Kd.S_nil _ _ _ _ _, HI.out.1, HI.out.2.1, HI.out.2.2, by decide, by have := HM.out; omega, by rw [Nat.sub_zero], rfl⟩
    have hm65 : m ≤ 65000 := by omega
    clear HA0 HI hx0b h1 h2 hbad
    rw [add0] at hx0
    go_wp2_with fail
    go_loopw [8, 26] (fun v8 v26 wr => ∃ (i : Nat) (p : Int) (out : List Fl), i ≤ cnt ∧ v26 = .int .u8 i ∧ Hid (LA w wr bB bA bD (some ad) l c0 p v8 out cnt i)) (fun _ v26 _ => cnt - (intOf v26).toNat)
    case atStart => exact ⟨0, 1, [], Nat.zero_le _, rfl, H0⟩
    case round =>
      clear H0 cB cD hx0
      obtain ⟨i, p, out, hi, rfl, H⟩ := hrel
      by_cases hlt : i < cnt
      · skip
        obtain ⟨W0, hW0⟩ : ∃ x, x = wr := ⟨_, rfl⟩
        rw [← hW0] at H ⊢
        clear hW0
        have hp0 := H.out.p0
        have hp1 := H.out.p1
        have hpl : p ≤ 65000 := by have := HM.out; omega
        have HN1 := Lib.hid (number_calls H.out.am HR.out HB.out HL.out hp0 (by omega) 1 (by decide) (by decide))
        rw [← HM.out] at HN1
        go_wp2_with fail
        refine HN1.out.mono ?_
        rintro e V1 ⟨v1, rfl, hv1, ha1, hk1⟩
        have HV1 := Lib.hid hv1
        have HA1 := Lib.hid ha1
        have HK1 := Lib.hid hk1
        clear hv1 ha1 hk1 HN1
        rw [show ((1 : Nat) : Int) = 1 from rfl] at HA1
        have HN2 := Lib.hid (number_calls (A := some ad) (c := c0) (l := l) (p := p + 1) (by rw [← HM.out]; exact HA1.out) HR.out HB.out HL.out (by omega) (by omega) 1 (by decide) (by decide))
        rw [← HM.out] at HN2
        go_wp2_with fail
        refine HN2.out.mono ?_
        rintro e V2 ⟨v2, rfl, hv2, ha2, hk2⟩
        have HV2 := Lib.hid hv2
        have HA2 := Lib.hid ha2
        have HK2 := Lib.hid (HK1.out.then_ hk2 (fun _ e => Or.inl e))
        clear hv2 ha2 hk2 HN2 HA1 HK1
        go_upto_region 11 with (fail)
        obtain ⟨tg, htg⟩ : ∃ x, x = v1 % 256 := ⟨_, rfl⟩
        obtain ⟨kd, hkd⟩ : ∃ x, x = v2 % 256 := ⟨_, rfl⟩
        rw [← htg, ← hkd]
        have HTK := Lib.hid (And.intro htg hkd)
        clear htg hkd
        obtain ⟨b0, hb0⟩ : ∃ b, b = ((false || !nok l p 1) || !nok l (p + 1) 1) := ⟨_, rfl⟩
        rw [← hb0, show p + 1 + ((1 : Nat) : Int) = p + 2 by omega] at HA2
        have HB0 := Lib.hid hb0
        clear hb0
        have H3 : Hid (FM w W0 (V2.alloc (.cells #[.int .u8 tg, .int .u8 kd, .int .i64 0, .string ⟨#[]⟩, .slice none 0 0, .slice none 0 0] 30)) bB bA bD V2.heap.size (some ad) m c0 (p + 2) b0 tg kd 0 ⟨#[]⟩ (.slice none 0 0) (.slice none 0 0) [] []) := Lib.hid
          ⟨HA2.out.below (below_alloc (Below.refl _ _) _), H.out.lB, H.out.lA, H.out.lD, H.out.am.bel.size, heap_alloc_new V2 _, HK2.out.1, Kd.R_nil _ _ _ _ _, Kd.R_nil _ _ _ _ _, HK2.out.alloc _⟩
        clear HA2 HK2
        generalize World.alloc V2 _ = V3 at H3 ⊢
        obtain ⟨gF, hgF⟩ : ∃ g, g = V2.heap.size := ⟨_, rfl⟩
        rw [← hgF] at H3 ⊢
        clear hgF
        have c1 : V3.cell? ⟨gF, 1, none⟩ = some (.int .u8 kd) := (blk_cell H3.out.box 1).trans rfl
        go_upto_block 2 with (fail)
        go_cut [] (fun wc => ∃ (q : Int) (bad : Bool) (nn : Int) (s : ByteArray) (v4 v5 : Value) (ns : List Int) (ts : List ByteArray), Hid (FM w W0 wc bB bA bD gF (some ad) m c0 q bad tg kd nn s v4 v5 ns ts) ∧ Hid (KB l (p + 2) tg kd b0 q bad nn s ns ts))
        case first =>
          clear c1
          by_cases k1 : kd = 1
          · subst k1
            have HN := Lib.hid (number_calls (A := some ad) (c := c0) (l := l) (p := p + 2) (by rw [← HM.out]; exact H3.out.am) HR.out HB.out HL.out (by omega) (by omega) 8 (by decide) (by decide))
            rw [← HM.out] at HN
            go_wp2_with fail
            refine HN.out.mono ?_
            rintro e V4 ⟨v, rfl, hv, ha, hk⟩
            have H4 := Lib.hid (H3.out.call ha hk)
            have HV := Lib.hid hv
            clear hv ha hk HN H3
            have c2 : V4.cell? ⟨gF, 2, none⟩ = some (.int .i64 0) := (blk_cell H4.out.box 2).trans rfl
            have z2 : V4.frozen? ⟨gF, 2, none⟩ = false := blk_frozen H4.out.box 2
            go_wp2
            go_meet
            case rel => exact ⟨_, _, _, _, _, _, _, _, Lib.hid (H4.out.setN _), Lib.hid (kb1 (tag := tg) (b0 := b0) (r := p + 2) (by omega) HV.out.2.2)⟩
          by_cases k2 : kd = 2
          · subst k2
            have HN := Lib.hid (textC_calls (A := some ad) (c := c0) (l := l) (p := p + 2) (by rw [← HM.out]; exact H3.out.am) HR.out HC.out HB.out HL.out (by omega) (by omega))
            rw [← HM.out] at HN
            go_wp2_with fail
            refine HN.out.mono ?_
            rintro e V4 ⟨rfl, ha, hk⟩
            have H4 := Lib.hid (H3.out.call ha hk)
            clear ha hk HN H3
            obtain ⟨tx, htx⟩ : ∃ x, x = strOfNums (txt l (p + 2)) := ⟨_, rfl⟩
            rw [← htx]
            have HT := Lib.hid htx
            clear htx
            have c3 : V4.cell? ⟨gF, 3, none⟩ = some (.string ⟨#[]⟩) := (blk_cell H4.out.box 3).trans rfl
            have z3 : V4.frozen? ⟨gF, 3, none⟩ = false := blk_frozen H4.out.box 3
            go_wp2
            go_meet
            case rel => exact ⟨_, _, _, _, _, _, _, _, Lib.hid (H4.out.setT _), Lib.hid (by rw [HT.out]; exact kb2 HB.out (by omega))⟩
          by_cases k3 : kd = 3
          · subst k3
            have HN := Lib.hid (number_calls (A := some ad) (c := c0) (l := l) (p := p + 2) (by rw [← HM.out]; exact H3.out.am) HR.out HB.out HL.out (by omega) (by omega) 2 (by decide) (by decide))
            rw [← HM.out] at HN
            go_wp2_with fail
            refine HN.out.mono ?_
            rintro e V4 ⟨v, rfl, hv, ha, hk⟩
            have H4 := Lib.hid (H3.out.call ha hk)
            have HV := Lib.hid hv
            have HK0 : Hid (KN l (p + 2) v b0 (p + 2 + 2) (b0 || !nok l (p + 2) 2) v.toNat []) := Lib.hid (kn0 HB.out (by omega) (by have := HM.out; omega) hv.2.2)
            have hv0 : v = (v.toNat : Int) := by have := hv.1; omega
            have hv64 : v.toNat < 18446744073709551616 := by have := hv.2.1; omega
            clear ha hk HN H3
            obtain ⟨v0, hv0'⟩ : ∃ x, x = v.toNat := ⟨_, rfl⟩
            rw [← hv0'] at hv0 HK0 hv64
            subst hv0
            clear hv hv0'
            go_wp2_with fail
            go_loopw [10] (fun v10 wr => ∃ (rr : Nat) (q : Int) (bad : Bool) (v4 : Value) (ns : List Int), v10 = .int .u64 rr ∧ Hid (rr < 18446744073709551616) ∧ Hid (FM w W0 wr bB bA bD gF (some ad) m c0 q bad tg 3 0 ⟨#[]⟩ v4 (.slice none 0 0) ns []) ∧ Hid (KN l (p + 2) v0 b0 q bad rr ns)) (fun v10 _ => (intOf v10).toNat)
            case atStart => exact ⟨v0, _, _, _, [], rfl, Lib.hid hv64, H4, HK0⟩
            case round =>
              clear H4 HK0 HV hv64
              obtain ⟨rr, q, bad, v4, ns, rfl, h64, H4, HKN⟩ := hrel
              have cD : wr.cell? ⟨bD, 0, none⟩ = some (.bool bad) := (blk_cell H4.out.am.d 0).trans rfl
              by_cases hz : 0 < rr
              · obtain ⟨r1, rfl⟩ : ∃ r1, rr = r1 + 1 := ⟨rr - 1, by omega⟩
                cases bad with
                | true =>
                  go_wp2
                  go_meet
                  case rel => exact ⟨_, _, _, _, _, _, _, _, H4, Lib.hid (kn_end HKN.out (fun h => by cases h))⟩
                | false =>
                  go_upto_region 20 with (fail)
                  have HD := Lib.hid (H4.out.below (Below.refl _ _).drew)
                  have hq := HKN.out.1
                  have hq2 := (HKN.out.2.2.1 rfl).2.2.1
                  have HN := Lib.hid (number_calls (A := some ad) (c := c0) (l := l) (p := q) (by rw [← HM.out]; exact HD.out.am) HR.out HB.out HL.out hq (by have := HM.out; omega) 8 (by decide) (by decide))
                  rw [← HM.out, show ((8 : Nat) : Int) = 8 from rfl] at HN
                  have c4 : wr.drew.cell? ⟨gF, 4, none⟩ = some v4 := (blk_cell HD.out.box 4).trans rfl
                  have hw1 : IntKind.u64.wrap (r1 : Int) = (r1 : Int) := by have := h64.out; rw [IntKind.wrap_u64]; omega
                  refine start_ (n := 9) (S := fun w' => w'.cell? ⟨gF, 4, none⟩ = some v4) (ds := [8]) #[false, false, false, false, false, false, false, false, false] (by kernel_rfl) rfl rfl (c4) (fun hHeld => ?_)
                  refine with_tabW field_All.tab20 field_All.bits20 (fun HT_ HW_ => ?_)
                  refine pure_ (i := 0) (N := some 60) (v := ?_) (a' := ?_) #[true, false, false, false, false, false, false, false, false] rfl rfl (any_of HT_.out (by kernel_rfl)) (fun _ _ _ h => h) (Or.inl ⟨by rfl, ?_⟩) ?_ ?_
                  rotate_left
                  · intro w'
                    go_simp
                    with_reducible rfl
                  rotate_left
                  · simp only [Act.put, List.setIfInBounds_toArray, List.set_cons_zero, List.set_cons_succ, i64_w, i32_w]
                    rfl
                  refine pure_ (i := 2) (N := some 62) (v := ?_) (a' := ?_) #[true, false, true, false, false, false, false, false, false] rfl rfl (any_of HT_.out (by kernel_rfl)) (fun _ _ _ h => h) (Or.inl ⟨by rfl, ?_⟩) ?_ ?_
                  rotate_left
                  · intro w'
                    go_simp
                    with_reducible rfl
                  rotate_left
                  · simp only [Act.put, List.setIfInBounds_toArray, List.set_cons_zero, List.set_cons_succ, i64_w, i32_w]
                    rfl
                  refine take_ (i := 1) (N := some 61) (v := ?_) (a' := ?_) #[true, true, true, false, false, false, false, false, false] rfl rfl (take_ofW HT_.out HW_.out (by kernel_rfl)) (fun _ _ _ h => h) (Or.inl ⟨by rfl, ?_⟩) hHeld ?_ ?_
                  rotate_left
                  · intro w' s0
                    go_simp
                    with_reducible rfl
                  rotate_left
                  · simp only [Act.put, List.setIfInBounds_toArray, List.set_cons_zero, List.set_cons_succ, i64_w, i32_w]
                    rfl
                  refine one_ (i := 3) (N := some 63) #[true, true, true, true, false, false, false, false, false] rfl rfl (one_of HT_.out (by kernel_rfl)) (by decide) (fun K hK => ?_)
                  refine goesC_ (.tmp 62) #[.pointer (some ⟨bB, 0, none⟩), .pointer (some ⟨bA, 0, none⟩), .pointer (some ⟨bD, 0, none⟩)] #[.int .i64 8, .pointer (some ⟨bB, 0, none⟩), .pointer (some ⟨bA, 0, none⟩), .pointer (some ⟨bD, 0, none⟩)] Try.func29 (by kernel_rfl) rfl #[.int .i64 8] (by first | rfl | simp) (by rfl) rfl rfl rfl (by first | (simp only [List.map_toArray, List.map_cons, List.map_nil]; done) | (simp only [List.map_toArray, List.map_cons, List.map_nil]; rfl)) ?_
                  with_reducible refine (HN.out).mono ?_
                  rintro e V5 ⟨v8, rfl, hv, ha, hk⟩
                  refine ⟨_, rfl, ?_⟩
                  have HV := Lib.hid hv.2.2
                  clear hv
                  have H5 := Lib.hid (HD.out.call ha hk)
                  have HE := H5
                  clear ha hk HN HD
                  refine hK.out _ _ ((blk_cell H5.out.box 4).trans rfl) (fun hHeld => ?_)
                  clear hK K
                  refine norm_ (a' := ?_) ?_ ?_
                  rotate_left
                  · show Act.put _ (some 63) _ = _
                    simp only [Act.put, List.setIfInBounds_toArray, List.set_cons_zero, List.set_cons_succ, i64_w, i32_w]
                    rfl
                  refine pure_ (i := 4) (N := some 64) (v := ?_) (a' := ?_) #[true, true, true, true, true, false, false, false, false] rfl rfl (any_of HT_.out (by kernel_rfl)) (fun _ _ _ h => h) (Or.inl ⟨by rfl, ?_⟩) ?_ ?_
                  rotate_left
                  · intro w'
                    go_simp
                    with_reducible rfl
                  rotate_left
                  · simp only [Act.put, List.setIfInBounds_toArray, List.set_cons_zero, List.set_cons_succ, i64_w, i32_w]
                    rfl
                  refine one_ (i := 5) (N := some 65) #[true, true, true, true, true, true, false, false, false] rfl rfl (one_of HT_.out (by kernel_rfl)) (by decide) (fun K hK => ?_)
                  refine value_ (w1 := ?_) (v := ?_) (by rfl) rfl ?_ ?_
                  rotate_left 2
                  · go_simp
                    constructor
                    · rfl
                    · rfl
                  refine hK.out _ _ ((blk_cell (H5.out.below (below_alloc (Below.refl V5.heap.size V5) (.cells #[.int .i64 (wrap64 v8)] 2))).box 4).trans rfl) (fun hHeld => ?_)
                  clear hK K
                  refine norm_ (a' := ?_) ?_ ?_
                  rotate_left
                  · show Act.put _ (some 65) _ = _
                    simp only [Act.put, List.setIfInBounds_toArray, List.set_cons_zero, List.set_cons_succ, i64_w, i32_w]
                    rfl
                  refine one_ (i := 6) (N := some 66) #[true, true, true, true, true, true, true, false, false] rfl rfl (one_of HT_.out (by kernel_rfl)) (by decide) (fun K hK => ?_)
                  refine Kd.R_append_step (Kd.int .i64) (w0 := w) (W := V5) w.heap.size (by rfl) (.tmp 61) (.tmp 65) 27 2 (.int .i64 0) 8 rfl Try.underlying27 infoI64 rfl (by decide) (by decide) v4 ns (wrap64 v8) [.int .i64 (wrap64 v8)] (fun k => W0.heap.size ≤ k ∧ k ≠ gF) (fun _ => False) rfl rfl rfl (fun _ hk => hk.elim) (fun k hk => ⟨Nat.le_trans HE.out.kept.1 hk, fun e => by have := HE.out.lt; omega⟩) HE.out.r4 HE.out.am.bel HE.out.am.bel.size (by have := (HKN.out.2.2.1 rfl).2.2.2.1; omega) ?_
                  intro vz w6 ho hb hg _
                  obtain ⟨Az, cz, hvz⟩ := Kd.R_slice ho
                  obtain ⟨nz, hnz⟩ : ∃ x, x = (ns ++ [(wrap64 v8)]).length := ⟨_, rfl⟩
                  rw [← hnz] at hvz
                  subst hvz
                  clear hnz
                  have H6 := Lib.hid (HE.out.grow4 hg hb ho)
                  have hbx := (HE.out.grow (row := v4.ownBlock) HE.out.r4.1 hg hb).2.1
                  have c6 : w6.cell? ⟨gF, 4, none⟩ = some v4 := (blk_cell hbx 4).trans rfl
                  have z6 : w6.frozen? ⟨gF, 4, none⟩ = false := blk_frozen hbx 4
                  clear ho hb hg hbx
                  refine hK.out _ _ (c6) (fun hHeld => ?_)
                  clear hK K
                  refine norm_ (a' := ?_) ?_ ?_
                  rotate_left
                  · show Act.put _ (some 66) _ = _
                    simp only [Act.put, List.setIfInBounds_toArray, List.set_cons_zero, List.set_cons_succ, i64_w, i32_w]
                    rfl
                  refine pure_ (i := 7) (N := some 67) (v := ?_) (a' := ?_) #[true, true, true, true, true, true, true, true, false] rfl rfl (any_of HT_.out (by kernel_rfl)) (fun _ _ _ h => h) (Or.inl ⟨by rfl, ?_⟩) ?_ ?_
                  rotate_left
                  · intro w'
                    go_simp
                    with_reducible rfl
                  rotate_left
                  · simp only [Act.put, List.setIfInBounds_toArray, List.set_cons_zero, List.set_cons_succ, i64_w, i32_w]
                    rfl
                  refine last_ (i := 8) (N := none) #[true, true, true, true, true, true, true, true, true] rfl rfl (one_of HT_.out (by kernel_rfl)) (by decide) (fun K hK => ?_)
                  refine skip_ (w1 := ?_) (by rfl) rfl ?_ ?_
                  rotate_left
                  · go_simp
                    rfl
                  refine hK.out _ _ ?_
                  clear hK K
                  refine done_ (done_of HT_.out (by kernel_rfl)) ?_
                  
                  go_wp2_with fail
                  go_roundw
                  case rel => exact ⟨r1, _, _, _, _, by go_num, Lib.hid (by have := h64.out; omega), H6, Lib.hid (kn_step HKN.out HV.out)⟩
                  case measure => first | (simp [intOf]; done) | (simp [intOf]; omega)
              · obtain rfl : rr = 0 := by omega
                go_wp2
                go_meet
                case rel => exact ⟨_, _, _, _, _, _, _, _, H4, Lib.hid (kn_end HKN.out (fun _ => rfl))⟩
          by_cases k4 : kd = 4
          · subst k4
            have HN := Lib.hid (number_calls (A := some ad) (c := c0) (l := l) (p := p + 2) (by rw [← HM.out]; exact H3.out.am) HR.out HB.out HL.out (by omega) (by omega) 2 (by decide) (by decide))
            rw [← HM.out] at HN
            go_wp2_with fail
            refine HN.out.mono ?_
            rintro e V4 ⟨v, rfl, hv, ha, hk⟩
            have H4 := Lib.hid (H3.out.call ha hk)
            have HV := Lib.hid hv
            have HK0 : Hid (KT l (p + 2) v b0 (p + 2 + 2) (b0 || !nok l (p + 2) 2) v.toNat []) := Lib.hid (kt0 HB.out (by omega) (by have := HM.out; omega) hv.2.2)
            have hv0 : v = (v.toNat : Int) := by have := hv.1; omega
            have hv64 : v.toNat < 18446744073709551616 := by have := hv.2.1; omega
            clear ha hk HN H3
            obtain ⟨v0, hv0'⟩ : ∃ x, x = v.toNat := ⟨_, rfl⟩
            rw [← hv0'] at hv0 HK0 hv64
            subst hv0
            clear hv hv0'
            go_wp2_with fail
            go_loopw [11] (fun v11 wr => ∃ (rr : Nat) (q : Int) (bad : Bool) (v5 : Value) (ns : List ByteArray), v11 = .int .u64 rr ∧ Hid (rr < 18446744073709551616) ∧ Hid (FM w W0 wr bB bA bD gF (some ad) m c0 q bad tg 4 0 ⟨#[]⟩ (.slice none 0 0) v5 [] ns) ∧ Hid (KT l (p + 2) v0 b0 q bad rr ns)) (fun v11 _ => (intOf v11).toNat)
            case atStart => exact ⟨v0, _, _, _, [], rfl, Lib.hid hv64, H4, HK0⟩
            case round =>
              clear H4 HK0 HV hv64
              obtain ⟨rr, q, bad, v5, ns, rfl, h64, H4, HKN⟩ := hrel
              have cD : wr.cell? ⟨bD, 0, none⟩ = some (.bool bad) := (blk_cell H4.out.am.d 0).trans rfl
              by_cases hz : 0 < rr
              · obtain ⟨r1, rfl⟩ : ∃ r1, rr = r1 + 1 := ⟨rr - 1, by omega⟩
                cases bad with
                | true =>
                  go_wp2
                  go_meet
                  case rel => exact ⟨_, _, _, _, _, _, _, _, H4, Lib.hid (kt_end HKN.out (fun h => by cases h))⟩
                | false =>
                  go_upto_region 25 with (fail)
                  have HD := Lib.hid (H4.out.below (Below.refl _ _).drew)
                  have hq := HKN.out.1
                  have hq2 := (HKN.out.2.2.1 rfl).2.2.1
                  have HN := Lib.hid (textC_calls (A := some ad) (c := c0) (l := l) (p := q) (by rw [← HM.out]; exact HD.out.am) HR.out HC.out HB.out HL.out hq (by have := HM.out; omega))
                  rw [← HM.out] at HN
                  have c4 : wr.drew.cell? ⟨gF, 5, none⟩ = some v5 := (blk_cell HD.out.box 5).trans rfl
                  have hw1 : IntKind.u64.wrap (r1 : Int) = (r1 : Int) := by have := h64.out; rw [IntKind.wrap_u64]; omega
                  refine start_ (n := 8) (S := fun w' => w'.cell? ⟨gF, 5, none⟩ = some v5) (ds := [7]) #[false, false, false, false, false, false, false, false] (by kernel_rfl) rfl rfl (c4) (fun hHeld => ?_)
                  refine with_tabW field_All.tab25 field_All.bits25 (fun HT_ HW_ => ?_)
                  refine pure_ (i := 0) (N := some 80) (v := ?_) (a' := ?_) #[true, false, false, false, false, false, false, false] rfl rfl (any_of HT_.out (by kernel_rfl)) (fun _ _ _ h => h) (Or.inl ⟨by rfl, ?_⟩) ?_ ?_
                  rotate_left
                  · intro w'
                    go_simp
                    with_reducible rfl
                  rotate_left
                  · simp only [Act.put, List.setIfInBounds_toArray, List.set_cons_zero, List.set_cons_succ, i64_w, i32_w]
                    rfl
                  refine pure_ (i := 2) (N := some 82) (v := ?_) (a' := ?_) #[true, false, true, false, false, false, false, false] rfl rfl (any_of HT_.out (by kernel_rfl)) (fun _ _ _ h => h) (Or.inl ⟨by rfl, ?_⟩) ?_ ?_
                  rotate_left
                  · intro w'
                    go_simp
                    with_reducible rfl
                  rotate_left
                  · simp only [Act.put, List.setIfInBounds_toArray, List.set_cons_zero, List.set_cons_succ, i64_w, i32_w]
                    rfl
                  refine take_ (i := 1) (N := some 81) (v := ?_) (a' := ?_) #[true, true, true, false, false, false, false, false] rfl rfl (take_ofW HT_.out HW_.out (by kernel_rfl)) (fun _ _ _ h => h) (Or.inl ⟨by rfl, ?_⟩) hHeld ?_ ?_
                  rotate_left
                  · intro w' s0
                    go_simp
                    with_reducible rfl
                  rotate_left
                  · simp only [Act.put, List.setIfInBounds_toArray, List.set_cons_zero, List.set_cons_succ, i64_w, i32_w]
                    rfl
                  refine one_ (i := 3) (N := some 83) #[true, true, true, true, false, false, false, false] rfl rfl (one_of HT_.out (by kernel_rfl)) (by decide) (fun K hK => ?_)
                  refine goesC_ (.tmp 82) #[.pointer (some ⟨bB, 0, none⟩), .pointer (some ⟨bA, 0, none⟩), .pointer (some ⟨bD, 0, none⟩)] #[.pointer (some ⟨bB, 0, none⟩), .pointer (some ⟨bA, 0, none⟩), .pointer (some ⟨bD, 0, none⟩)] Try.func31 (by kernel_rfl) rfl #[] (by first | rfl | simp) (by rfl) rfl rfl rfl (by first | (simp only [List.map_toArray, List.map_cons, List.map_nil]; done) | (simp only [List.map_toArray, List.map_cons, List.map_nil]; rfl)) ?_
                  with_reducible refine (HN.out).mono ?_
                  rintro e V5 ⟨rfl, ha, hk⟩
                  refine ⟨_, rfl, ?_⟩
                  obtain ⟨tx, htx⟩ : ∃ x, x = strOfNums (txt l q) := ⟨_, rfl⟩
                  rw [← htx]
                  have HV := Lib.hid htx
                  clear htx
                  have H5 := Lib.hid (HD.out.call ha hk)
                  have HE := H5
                  clear ha hk HN HD
                  refine hK.out _ _ ((blk_cell H5.out.box 5).trans rfl) (fun hHeld => ?_)
                  clear hK K
                  refine norm_ (a' := ?_) ?_ ?_
                  rotate_left
                  · show Act.put _ (some 83) _ = _
                    simp only [Act.put, List.setIfInBounds_toArray, List.set_cons_zero, List.set_cons_succ, i64_w, i32_w]
                    rfl
                  refine one_ (i := 4) (N := some 84) #[true, true, true, true, true, false, false, false] rfl rfl (one_of HT_.out (by kernel_rfl)) (by decide) (fun K hK => ?_)
                  refine value_ (w1 := ?_) (v := ?_) (by rfl) rfl ?_ ?_
                  rotate_left 2
                  · go_simp
                    constructor
                    · rfl
                    · rfl
                  refine hK.out _ _ ((blk_cell (H5.out.below (below_alloc (Below.refl V5.heap.size V5) (.cells #[.string tx] 9))).box 5).trans rfl) (fun hHeld => ?_)
                  clear hK K
                  refine norm_ (a' := ?_) ?_ ?_
                  rotate_left
                  · show Act.put _ (some 84) _ = _
                    simp only [Act.put, List.setIfInBounds_toArray, List.set_cons_zero, List.set_cons_succ, i64_w, i32_w]
                    rfl
                  refine one_ (i := 5) (N := some 85) #[true, true, true, true, true, true, false, false] rfl rfl (one_of HT_.out (by kernel_rfl)) (by decide) (fun K hK => ?_)
                  refine Kd.R_append_step Kd.string (w0 := w) (W := V5) w.heap.size (by rfl) (.tmp 81) (.tmp 84) 28 9 (.string ⟨#[]⟩) 16 rfl Try.underlying28 infoStr rfl (by decide) (by decide) v5 ns tx [.string tx] (fun k => W0.heap.size ≤ k ∧ k ≠ gF) (fun _ => False) rfl rfl rfl (fun _ hk => hk.elim) (fun k hk => ⟨Nat.le_trans HE.out.kept.1 hk, fun e => by have := HE.out.lt; omega⟩) HE.out.r5 HE.out.am.bel HE.out.am.bel.size (by have := (HKN.out.2.2.1 rfl).2.2.2.1; omega) ?_
                  intro vz w6 ho hb hg _
                  obtain ⟨Az, cz, hvz⟩ := Kd.R_slice ho
                  obtain ⟨nz, hnz⟩ : ∃ x, x = (ns ++ [tx]).length := ⟨_, rfl⟩
                  rw [← hnz] at hvz
                  subst hvz
                  clear hnz
                  have H6 := Lib.hid (HE.out.grow5 hg hb ho)
                  have hbx := (HE.out.grow (row := v5.ownBlock) HE.out.r5.1 hg hb).2.1
                  have c6 : w6.cell? ⟨gF, 5, none⟩ = some v5 := (blk_cell hbx 5).trans rfl
                  have z6 : w6.frozen? ⟨gF, 5, none⟩ = false := blk_frozen hbx 5
                  clear ho hb hg hbx
                  refine hK.out _ _ (c6) (fun hHeld => ?_)
                  clear hK K
                  refine norm_ (a' := ?_) ?_ ?_
                  rotate_left
                  · show Act.put _ (some 85) _ = _
                    simp only [Act.put, List.setIfInBounds_toArray, List.set_cons_zero, List.set_cons_succ, i64_w, i32_w]
                    rfl
                  refine pure_ (i := 6) (N := some 86) (v := ?_) (a' := ?_) #[true, true, true, true, true, true, true, false] rfl rfl (any_of HT_.out (by kernel_rfl)) (fun _ _ _ h => h) (Or.inl ⟨by rfl, ?_⟩) ?_ ?_
                  rotate_left
                  · intro w'
                    go_simp
                    with_reducible rfl
                  rotate_left
                  · simp only [Act.put, List.setIfInBounds_toArray, List.set_cons_zero, List.set_cons_succ, i64_w, i32_w]
                    rfl
                  refine last_ (i := 7) (N := none) #[true, true, true, true, true, true, true, true] rfl rfl (one_of HT_.out (by kernel_rfl)) (by decide) (fun K hK => ?_)
                  refine skip_ (w1 := ?_) (by rfl) rfl ?_ ?_
                  rotate_left
                  · go_simp
                    rfl
                  refine hK.out _ _ ?_
                  clear hK K
                  refine done_ (done_of HT_.out (by kernel_rfl)) ?_
                  
                  go_wp2_with fail
                  go_roundw
                  case rel => exact ⟨r1, _, _, _, _, by go_num, Lib.hid (by have := h64.out; omega), H6, Lib.hid (by rw [HV.out]; exact kt_step HB.out HKN.out)⟩
                  case measure => first | (simp [intOf]; done) | (simp [intOf]; omega)
              · obtain rfl : rr = 0 := by omega
                go_wp2
                go_meet
                case rel => exact ⟨_, _, _, _, _, _, _, _, H4, Lib.hid (kt_end HKN.out (fun _ => rfl))⟩
          go_wp2
          go_meet
          case rel => exact ⟨_, _, _, _, _, _, _, _, H3, Lib.hid (kb0 (by omega) (fun hb => by rw [HB0.out] at hb; rw [Bool.false_or, Bool.or_eq_false_iff, Bool.not_eq_false', Bool.not_eq_false'] at hb; have := nok_len hb.2; omega) k1 k2 k3 k4)⟩
        case rest =>
          clear c1 H3
          obtain ⟨q, bad, nn, s, v4, v5, ns, ts, H4, HKB⟩ := hcut
          have HO1 := Lib.hid (fld_of HB.out HTK.out.1 HTK.out.2 HV1.out.2.2 HV2.out.2.2 HB0.out HKB.out)
          have cD : wc.cell? ⟨bD, 0, none⟩ = some (.bool bad) := (blk_cell H4.out.am.d 0).trans rfl
          cases bad with
          | true =>
            have HJ : Hid (allF l = ([], 40)) := Lib.hid (by
              rw [HF.out, H.out.is, show cnt - i = (cnt - i - 1) + 1 by omega, allL_none (HO1.out.2 rfl)]
              rfl)
            go_wp2
            go_ret2
            exact ⟨.slice none 0 0, by rw [HJ.out]; rfl, by rw [HJ.out]; exact Kd.S_nil _ _ _ _ _, H4.out.am.bel⟩
          | false =>
            obtain ⟨A4, c4, hv4⟩ := Kd.R_slice H4.out.r4
            obtain ⟨A5, c5, hv5⟩ := Kd.R_slice H4.out.r5
            obtain ⟨n4, hn4⟩ : ∃ n, n = ns.length := ⟨_, rfl⟩
            obtain ⟨n5, hn5⟩ : ∃ n, n = ts.length := ⟨_, rfl⟩
            rw [← hn4] at hv4
            rw [← hn5] at hv5
            subst hv4
            subst hv5
            clear hn4 hn5
            obtain ⟨A8, c8, hv8⟩ := Kd.S_slice H.out.row
            obtain ⟨n8, hn8⟩ : ∃ n, n = out.length := ⟨_, rfl⟩
            rw [← hn8] at hv8
            subst hv8
            clear hn8
            have hld := fl_ld H4.out.box rfl
            unfold fldC at hld
            have HMk := Lib.hid (k30_mkM wc w.heap.size (fun k => W0.heap.size ≤ k ∧ k ≠ gF) ⟨tg, kd, nn, s, ns, ts⟩ H4.out.r4 H4.out.r5)
            have HSr := Lib.hid (Kd.S_mono (ok' := fun k => (¬ SAD bA bD k ∧ k ≠ bB) ∧ ¬ (W0.heap.size ≤ k ∧ k ≠ gF)) (Kd.S_kept (Kd.S_bound H.out.row) H4.out.kept (fun k hk => hk.1.1)) (fun k hk => ⟨hk.1, fun e => by have := hk.2.2.1; omega⟩))
            have HOK := Lib.hid (show ∀ k, (W0.heap.size ≤ k ∧ k ≠ gF) → (¬ SAD bA bD k ∧ k ≠ bB) ∧ some k ≠ (Value.slice A8 n8 c8).ownBlock from fun k hk => ⟨⟨H4.out.nSAD hk.1, fun e => by have h1 := H4.out.lB; have h2 := hk.1; omega⟩, fun e => by have h1 := Kd.S_lt H.out.row k e.symm; have h2 := hk.1; omega⟩)
            have HFR := Lib.hid (show ∀ k, wc.heap.size ≤ k → ¬ SAD bA bD k ∧ k ≠ bB from fun k hk => ⟨H4.out.nSAD (Nat.le_trans H4.out.kept.1 hk), fun e => by have h1 := H4.out.lB; have h2 := H4.out.kept.1; omega⟩)
            have HLN := Lib.hid (show (out.length + 1) * 80 ≤ 140737488355328 by have := H.out.len; omega)
            go_wp2_with (first | ((with_reducible refine gate_ (.load 30 (.tmp 9)) rfl ?_); refine wl_load 30 (.tmp 9) rfl rfl _ _ rfl hld ?_) | ((with_reducible refine gate_builtin (b := .append) (xs := #[.tmp 88, .tmp 90]) rfl ?_); at_builtin; refine Kd.S_append k30 (w0 := w) w.heap.size rfl (.tmp 88) (.tmp 90) 31 30 (.agg #[.int .u8 0, .int .u8 0, .int .i64 0, .string ⟨#[]⟩, .slice none 0 0, .slice none 0 0]) 80 rfl Try.underlying31 infoFlZ rfl (by decide) (by decide) (.slice A8 n8 c8) out ⟨tg, kd, nn, s, ns, ts⟩ [.int .u8 tg, .int .u8 kd, .int .i64 nn, .string s, .slice A4 n4 c4, .slice A5 n5 c5] (fun k => ¬ SAD bA bD k ∧ k ≠ bB) (fun k => W0.heap.size ≤ k ∧ k ≠ gF) rfl rfl HMk.out HOK.out HFR.out HSr.out H4.out.am.bel H4.out.am.bel.size HLN.out ?_; intro v9 w9 ho hb hg _; have HS9 := Lib.hid ho; have HB9 := Lib.hid hb; have HG9 := Lib.hid hg; clear ho hb hg) | fail)
            have HLA : Hid (LA w w9 bB bA bD (some ad) l c0 q v9 (out ++ [⟨tg, kd, nn, s, ns, ts⟩]) cnt (i + 1)) := Lib.hid (by
              have ham := H4.out.am
              have hown : ∀ k, (k = bB ∨ k = bA ∨ k = bD) → some k ≠ (Value.slice A8 n8 c8).ownBlock := fun k hk e => by
                have h1 := (Kd.S_R H.out.row).1 k e.symm
                rcases hk with rfl | rfl | rfl
                · exact h1.2 rfl
                · exact h1.1 (Or.inl rfl)
                · exact h1.1 (Or.inr rfl)
              have hkb := HKB.out.2.1 rfl
              refine ⟨⟨HB9.out, ham.gB, ham.gA, ham.gD, ham.nBA, ham.nBD, ham.nAD, ?_, ?_, ?_⟩, HS9.out, ?_, ?_, ?_, HKB.out.1, hkb.2.1, ?_, ?_⟩
              · rw [← HM.out]; exact (HG9.out.block _ (blk_lt ham.B) (hown _ (Or.inl rfl))).trans ham.B
              · exact (HG9.out.block _ (blk_lt ham.a) (hown _ (Or.inr (Or.inl rfl)))).trans ham.a
              · exact (HG9.out.block _ (blk_lt ham.d) (hown _ (Or.inr (Or.inr rfl)))).trans ham.d
              · exact Nat.lt_of_lt_of_le (blk_lt ham.B) HG9.out.size
              · exact Nat.lt_of_lt_of_le (blk_lt ham.a) HG9.out.size
              · exact Nat.lt_of_lt_of_le (blk_lt ham.d) HG9.out.size
              · rw [H.out.is, show cnt - i = (cnt - (i + 1)) + 1 by omega, allL_some (HO1.out.1 rfl)]
              · rw [List.length_append, H.out.len]; rfl)
            have hw8 : IntKind.u8.wrap ((i : Int) + 1) = (i : Int) + 1 := by rw [IntKind.wrap_u8]; omega
            clear cD hld
            go_wp2_with fail
            go_roundw
            case rel => first | exact ⟨i + 1, q, _, by omega, by go_num, HLA⟩ | ((repeat apply Exists.intro); exact ⟨⟨i + 1, q, _, by omega, by go_num, HLA⟩, rfl⟩)
            case measure => first | (simp [intOf]; done) | (simp [intOf]; omega)
      · obtain rfl : i = cnt := by omega
        have HJ : Hid (allF l = judge m (some (out, p))) := Lib.hid (by
          rw [HF.out, H.out.is, Nat.sub_self]
          rfl)
        obtain ⟨A8, c8, hv8⟩ := Kd.S_slice H.out.row
        obtain ⟨n8, hn8⟩ : ∃ n, n = out.length := ⟨_, rfl⟩
        have hn255 : n8 ≤ 255 := by rw [hn8, H.out.len]; exact hc255
        rw [← hn8] at hv8
        subst hv8
        have HN8 := Lib.hid hn8
        clear hn8
        have cA : wr.cell? ⟨bA, 0, none⟩ = some (.int .i64 p) := (blk_cell H.out.am.a 0).trans rfl
        have cB : wr.cell? ⟨bB, 0, none⟩ = some (.slice (some ad) m c0) := by rw [HM.out]; exact (blk_cell H.out.am.B 0).trans rfl
        have HRd := Lib.hid (Kd.S_reads' H.out.row)
        have HRt := Lib.hid (show Calls Try.prog 10 #[.slice A8 n8 c8] wr fun e w' => e = .returned (.bool (rightL out)) ∧ Below wr.heap.size wr w' by
          rw [HN8.out]
          exact rightL_calls out A8 c8 wr (by have := HN8.out; omega) HRd.out.2.2 (by have := HRd.out; omega))
        by_cases hpm : p = (m : Int)
        · have hpb : (p != (m : Int)) = false := by simp [hpm]
          have HPM := Lib.hid hpm
          clear hpm
          go_wp2_with fail
          refine HRt.out.mono ?_
          rintro e w3 ⟨rfl, hb⟩
          have HB3 := Lib.hid (below_then H.out.am.bel H.out.am.bel.size hb)
          have HS3 := Lib.hid (Kd.S_below H.out.row hb)
          clear hb HRt cA cB hpb
          cases hro : rightL out with
          | false =>
            have HE : Hid (allF l = ([], 40)) := Lib.hid (by rw [HJ.out]; unfold judge; simp only; rw [if_neg (by rw [hro]; simp)])
            go_wp2
            go_ret2
            exact ⟨.slice none 0 0, by rw [HE.out]; rfl, by rw [HE.out]; exact Kd.S_nil _ _ _ _ _, HB3.out⟩
          | true =>
            have HE : Hid (allF l = (out, 0)) := Lib.hid (by rw [HJ.out]; unfold judge; simp only; rw [if_pos ⟨HPM.out, hro⟩])
            go_wp2
            go_ret2
            exact ⟨.slice A8 n8 c8, by rw [HE.out]; rfl, by rw [HE.out]; exact Kd.S_mono HS3.out (fun _ _ => trivial), HB3.out⟩
        · have hpb : (p != (m : Int)) = true := by simp [hpm]
          have HE : Hid (allF l = ([], 40)) := Lib.hid (by rw [HJ.out]; unfold judge; simp only; rw [if_neg (fun h => hpm h.1)])
          have HBx := Lib.hid H.out.am.bel
          clear HRt
          go_wp2
          go_ret2
          exact ⟨.slice none 0 0, by rw [HE.out]; rfl, by rw [HE.out]; exact Kd.S_nil _ _ _ _ _, HBx.out⟩
end Go.Proofs.Ytnhkbjihgepapaa.Fd
