/- FilePlays: both disks in their boxes; one call upon one of them. -/
import Derived.Test.YtfggcdpipolahaaFiPlay
import Derived.Test.YtfggcdpipolahaaFiAwake
import Derived.Test.YtfggcdpipolahaaPFx0
set_option linter.unusedVariables false
set_option linter.unusedSimpArgs false
namespace Go.Proofs.Ytfggcdpipolahaa.PF
open Go.RowKit Go.Proofs.YtfggcdpipolahaaW.PrintWords Go.Proofs.YtfggcdpipolahaaW.PrintLast Go.Proofs.YtfggcdpipolahaaW.PrintMore
theorem and_bit (x : Int) : ∃ m : Nat, bits .and .i64 x 1 = m ∧ m < 2 := by
  have h : (BitVec.ofInt 64 x &&& BitVec.ofInt 64 1).toNat ≤ 1 := by
    rw [BitVec.toNat_and]
    exact Nat.and_le_right
  refine ⟨(BitVec.ofInt 64 x &&& BitVec.ofInt 64 1).toNat, ?_, by omega⟩
  show IntKind.i64.wrap (((BitVec.ofInt 64 x &&& BitVec.ofInt 64 1).toNat : Nat) : Int) = _
  rw [IntKind.wrap_i64]
  omega
/-- Every kind of call. -/
theorem both_calls {w0 w : World} {F : Nat → Option ADk} {b n : Nat} {a : ADk} {r : RD} (h : Disks w0 w (fun _ => True) F n) (hF : F b = some a) (hr : DR n (fun _ => True) w r a) (hn : n ≤ 1000) (K on f N x torn : Int) (A : Option Addr) (L c : Nat) (hN : N ≤ 9223372036854775807) (X : List Int) (hX : X.length = L) (hx : Kd.C ku8 w0 A L X) (hLl : L ≤ 4398046511104) :
    Calls Try.prog 28 #[.pointer (some ⟨b, 0, none⟩), .agg r.cells, .agg #[.int .i64 K, .int .i64 on, .int .i64 f, .slice A L c, .int .i64 N, .int .i64 x, .int .i64 torn]] w (Did w0 w F b n) := by
  by_cases h1 : K = 1
  · subst h1
    exact does_append h hF hr hn on f N x torn A L c X hX hx hLl
  by_cases h2 : K = 2
  · subst h2
    exact does_cut h hF hr hn on f N x torn A L c
  by_cases h3 : K = 3
  · subst h3
    exact does_sync h hF hr hn on f N x torn A L c
  by_cases h4 : K = 4
  · subst h4
    exact does_read h hF hr hn on f N x torn A L c
  by_cases h5 : K = 5
  · subst h5
    exact does_arm h hF hr hn on f N x torn A L c hN
  by_cases h6 : K = 6
  · subst h6
    exact does_fail h hF hr hn on f N x torn A L c hN
  by_cases h7 : K = 7
  · subst h7
    exact does_crash h hF hr hn on f N x torn A L c hN
  exact does_else h hF hr hn K on f N x torn A L c h1 h2 h3 h4 h5 h6 h7
/-- A law's own box is written. -/
theorem Disks.grown {w0 w w1 : World} {ok : Nat → Prop} {F : Nat → Option ADk} {n : Nat} (h : Disks w0 w ok F n) {g t : Nat} {cells : Array Value} (hg : w0.heap.size ≤ g) (hb : w.heap[g]? = some (.cells cells t (0, 0))) (h1 : t ≠ 69) (h2 : t ≠ 77) (h3 : t ≠ 5) (hgr : w.grownBy w1 (some g)) : Disks w0 w1 ok F n := by
  obtain ⟨hb0, D, RS, ho, hd⟩ := h
  refine ⟨hb0.trans ((Fr.of_grown hgr).below hb0.size (fun k hk => by injection hk with hk; omega)), D, RS, fun b a e => ?_, hd⟩
  have hm := (ho b a e).mem
  have f : ∀ t y, By ok w t y → By ok w1 t y := fun t y k => k.box hb (fun e => h3 e.symm) hgr
  refine ⟨⟨(hgr.block b (blk_lt hm.box) (fun hk => ?_)).trans hm.box, hm.now.map f, hm.safe.map f, Kd.R_mono (Kd.R_step (Kd.R_types hm.ops hb (by intro q hq; simp [Kd.pair, Kd.int, Kd.bool, Kd.scalar] at hq; rw [hq]; exact fun e => h2 e.symm)) (fun k hk hl => hgr.block k hl (by rintro ⟨rfl⟩; exact hk.2 rfl))) (fun _ hk => hk.1), hm.rel.map f, hm.down, hm.arm, hm.fail, hm.wth⟩, (ho b a e).good, (ho b a e).box, (ho b a e).ops⟩
  injection hk with hk
  have e2 := hm.box
  unfold DB at e2
  rw [hk, hb] at e2
  injection e2 with e2
  injection e2 with _ e3 _
  exact h1 e3
theorem exec_storeM {P : Program} {o : Oper} {a : Act} {t : TypeId} {p v : Operand} {W : World} {b k : Nat} {t0 : TypeId} {old cells : Array Value} (ho : o.op = .store t p v) (hp : a.eval p = .pointer (some ⟨b, k, none⟩)) (hv : a.eval v = .agg cells) (hg : W.heap[b]? = some (.cells old t0 (0, 0)))
    (hi : (P.info? t).map (·.size) = some cells.size) (hk : k + cells.size ≤ old.size) (h1 : cells.all (·.oneCell') = true) : (execOp a.eval o).run P W = .ok .skip (W.setCells b k cells.toList) := by
  have ht : W.there b k cells.size := fun j hj => by
    refine ⟨?_, blk_frozen hg _⟩
    rw [blk_cell hg, Array.getElem?_eq_getElem (by omega)]
    rfl
  have h := run_storeAt_mid (P := P) W b k t cells ht hi h1
  unfold execOp
  rw [ho]
  simp only [hp, hv, Sem.run_bind, h, Result.andThen_ok]
  rfl
def putL (cells : Array Value) (k : Nat) : List Value → Array Value
  | [] => cells
  | x :: xs => putL (cells.setIfInBounds k x) (k + 1) xs
theorem blk_puts {b t : Nat} : ∀ (xs : List Value) {w : World} {cells : Array Value} (k : Nat), w.heap[b]? = some (.cells cells t (0, 0)) → (w.setCells b k xs).heap[b]? = some (.cells (putL cells k xs) t (0, 0)) ∧ w.grownBy (w.setCells b k xs) (some b)
  | [], w, cells, k, h => ⟨h, grown_refl _ _⟩
  | x :: xs, w, cells, k, h => by
    have h1 := blk_puts xs (k + 1) (blk_set h k x)
    exact ⟨h1.1, grown_then (grown_set k x) h1.2⟩
/-- Both document's disks in one box. -/
def two (r s : RD) : Array Value := #[.slice r.f.a.1 r.f.a.2.1 r.f.a.2.2, .slice r.f.b.1 r.f.b.2.1 r.f.b.2.2, .slice r.f.c.1 r.f.c.2.1 r.f.c.2.2, .slice r.ops.1 r.ops.2.1 r.ops.2.2, .bool r.down, .int .i64 r.arm, .int .i64 r.fail, .int .i64 r.wth,
  .slice s.f.a.1 s.f.a.2.1 s.f.a.2.2, .slice s.f.b.1 s.f.b.2.1 s.f.b.2.2, .slice s.f.c.1 s.f.c.2.1 s.f.c.2.2, .slice s.ops.1 s.ops.2.1 s.ops.2.2, .bool s.down, .int .i64 s.arm, .int .i64 s.fail, .int .i64 s.wth]
theorem two_put0 (r s q : RD) : putL (two r s) 0 q.cells.toList = two q s := by simp [two, putL, RD.cells]
theorem two_put1 (r s q : RD) : putL (two r s) 8 q.cells.toList = two r q := by simp [two, putL, RD.cells]
theorem two_ld0 {w : World} {g t : Nat} {r s : RD} (h : w.heap[g]? = some (.cells (two r s) t (0, 0))) : (Instr.loadAt 53 (.pointer (some ⟨g, 0, none⟩))).run Try.prog w = .ok (.agg r.cells) w := by
  refine (run_loadAt_mid (P := Try.prog) w g 0 53 r.cells.toList _ ?_ Try.underlying53 rfl infoRd)
  intro j v hv
  rw [blk_cell h, Nat.zero_add]
  match j, hv with
  | 0, hv => exact hv
  | 1, hv => exact hv
  | 2, hv => exact hv
  | 3, hv => exact hv
  | 4, hv => exact hv
  | 5, hv => exact hv
  | 6, hv => exact hv
  | 7, hv => exact hv
  | j + 8, hv => simp [RD.cells] at hv
theorem two_ld1 {w : World} {g t : Nat} {r s : RD} (h : w.heap[g]? = some (.cells (two r s) t (0, 0))) : (Instr.loadAt 53 (.pointer (some ⟨g, 8, none⟩))).run Try.prog w = .ok (.agg s.cells) w := by
  refine (run_loadAt_mid (P := Try.prog) w g 8 53 s.cells.toList _ ?_ Try.underlying53 rfl infoRd)
  intro j v hv
  rw [blk_cell h]
  match j, hv with
  | 0, hv => exact hv
  | 1, hv => exact hv
  | 2, hv => exact hv
  | 3, hv => exact hv
  | 4, hv => exact hv
  | 5, hv => exact hv
  | 6, hv => exact hv
  | 7, hv => exact hv
  | j + 8, hv => simp [RD.cells] at hv
theorem infoLop : (Try.prog.info? 57).map (·.size) = some 7 := by kernel_rfl
/-- Both disks of the program (b0, b1) and both of the document (r0, r1), in the law's boxes g3 and g4. -/
structure PL (w0 w : World) (g3 g4 i b0 b1 : Nat) (r0 r1 : RD) (a0 a1 : ADk) (F : Nat → Option ADk) : Prop where
  disks : Disks w0 w (fun _ => True) F i
  f0 : F b0 = some a0
  f1 : F b1 = some a1
  ne : b0 ≠ b1
  d0 : DR i (fun _ => True) w r0 a0
  d1 : DR i (fun _ => True) w r1 a1
  bd : w.heap[g3]? = some (.cells #[.pointer (some ⟨b0, 0, none⟩), .pointer (some ⟨b1, 0, none⟩)] 49 (0, 0))
  bl : w.heap[g4]? = some (.cells (two r0 r1) 55 (0, 0))
  g3l : w0.heap.size ≤ g3
  g34 : g3 < g4
section
variable {w0 w w1 : World} {g3 g4 i b0 b1 : Nat} {r0 r1 : RD} {a0 a1 : ADk} {F : Nat → Option ADk}
theorem PL.below (h : PL w0 w g3 g4 i b0 b1 r0 r1 a0 a1 F) (hb : Below w.heap.size w w1) : PL w0 w1 g3 g4 i b0 b1 r0 r1 a0 a1 F := ⟨h.disks.below hb, h.f0, h.f1, h.ne, h.d0.below hb, h.d1.below hb, blk_below h.bd hb, blk_below h.bl hb, h.g3l, h.g34⟩
theorem PL.le (h : PL w0 w g3 g4 i b0 b1 r0 r1 a0 a1 F) : PL w0 w g3 g4 (i + 1) b0 b1 r0 r1 a0 a1 F := ⟨h.disks.le (Nat.le_succ i), h.f0, h.f1, h.ne, h.d0.le (Nat.le_succ i), h.d1.le (Nat.le_succ i), h.bd, h.bl, h.g3l, h.g34⟩
theorem PL.box (h : PL w0 w g3 g4 i b0 b1 r0 r1 a0 a1 F) {g t : Nat} {cells : Array Value} (hg : w0.heap.size ≤ g) (hb : w.heap[g]? = some (.cells cells t (0, 0))) (ht : t = 57) (hgr : w.grownBy w1 (some g)) : PL w0 w1 g3 g4 i b0 b1 r0 r1 a0 a1 F := by
  subst ht
  refine ⟨h.disks.grown hg hb (by decide) (by decide) (by decide) hgr, h.f0, h.f1, h.ne, h.d0.box hb (by decide) (by decide) hgr, h.d1.box hb (by decide) (by decide) hgr, (hgr.block g3 (blk_lt h.bd) ?_).trans h.bd, (hgr.block g4 (blk_lt h.bl) ?_).trans h.bl, h.g3l, h.g34⟩
  · intro e
    injection e with e
    have := h.bd
    rw [e, hb] at this
    injection this with this
    injection this with _ e3 _
    exact absurd e3 (by decide)
  · intro e
    injection e with e
    have := h.bl
    rw [e, hb] at this
    injection this with this
    injection this with _ e3 _
    exact absurd e3 (by decide)
/-- The document's disk at offset k is laid anew. -/
theorem PL.lay {r0' r1' : RD} {a0' a1' : ADk} {k : Nat} {q : RD} (hD : Disks w0 w (fun _ => True) F i) (h0 : F b0 = some a0') (h1 : F b1 = some a1') (hne : b0 ≠ b1) (d0 : DR i (fun _ => True) w r0' a0') (d1 : DR i (fun _ => True) w r1' a1') (bd : w.heap[g3]? = some (.cells #[.pointer (some ⟨b0, 0, none⟩), .pointer (some ⟨b1, 0, none⟩)] 49 (0, 0))) (bl : w.heap[g4]? = some (.cells (two r0 r1) 55 (0, 0))) (hg : w0.heap.size ≤ g3) (hg' : g3 < g4) (hp : putL (two r0 r1) k q.cells.toList = two r0' r1') : PL w0 (w.setCells g4 k q.cells.toList) g3 g4 i b0 b1 r0' r1' a0' a1' F := by
  have hu := blk_puts q.cells.toList k bl
  exact ⟨hD.grown (by omega) bl (by decide) (by decide) (by decide) hu.2, h0, h1, hne, d0.box bl (by decide) (by decide) hu.2, d1.box bl (by decide) (by decide) hu.2, (hu.2.block g3 (blk_lt bd) (fun e => by injection e with e; omega)).trans bd, hp ▸ hu.1, hg, hg'⟩
theorem PL.copy0 (h : PL w0 w g3 g4 i b0 b1 r0 r1 a0 a1 F) {b2 : Nat} (hb : F b2 = some a0) (hne : b0 ≠ b2) : PL w0 ((w.setCell ⟨g3, 1, none⟩ (.pointer (some ⟨b2, 0, none⟩))).setCells g4 8 r0.cells.toList) g3 g4 i b0 b2 r0 r0 a0 a0 F := by
  have hgr := grown_set (w := w) (b := g3) 1 (.pointer (some ⟨b2, 0, none⟩))
  have hd := h.d0.box h.bd (by decide) (by decide) hgr
  exact PL.lay (h.disks.grown h.g3l h.bd (by decide) (by decide) (by decide) hgr) h.f0 hb hne hd hd (blk_set h.bd 1 _) (blk_far h.bl (by have := h.g34; show g4 ≠ g3; omega) _) h.g3l h.g34 (two_put1 _ _ _)
theorem PL.copy1 (h : PL w0 w g3 g4 i b0 b1 r0 r1 a0 a1 F) {b2 : Nat} (hb : F b2 = some a1) (hne : b1 ≠ b2) : PL w0 ((w.setCell ⟨g3, 0, none⟩ (.pointer (some ⟨b2, 0, none⟩))).setCells g4 0 r1.cells.toList) g3 g4 i b2 b1 r1 r1 a1 a1 F := by
  have hgr := grown_set (w := w) (b := g3) 0 (.pointer (some ⟨b2, 0, none⟩))
  have hd := h.d1.box h.bd (by decide) (by decide) hgr
  exact PL.lay (h.disks.grown h.g3l h.bd (by decide) (by decide) (by decide) hgr) hb h.f1 (fun e => hne e.symm) hd hd (blk_set h.bd 0 _) (blk_far h.bl (by have := h.g34; show g4 ≠ g3; omega) _) h.g3l h.g34 (two_put0 _ _ _)
theorem PL.does0 (h : PL w0 w g3 g4 i b0 b1 r0 r1 a0 a1 F) {q : RD} {a' : ADk} {F' : Nat → Option ADk} (hD : Disks w0 w1 (fun _ => True) F' (i + 1)) (hb : F' b0 = some a') (ho : ∀ k, k ≠ b0 → F' k = F k) (hq : DR (i + 1) (fun _ => True) w1 q a') (h8 : Kept8 w w1) (hT : KeptT w w1) : PL w0 (w1.setCells g4 0 q.cells.toList) g3 g4 (i + 1) b0 b1 q r1 a' a1 F' :=
  PL.lay hD hb (by rw [ho b1 h.ne.symm]; exact h.f1) h.ne hq ((h.d1.kept h8 hT).le (Nat.le_succ i)) (hT _ _ _ (by decide) (by decide) h.bd) (hT _ _ _ (by decide) (by decide) h.bl) h.g3l h.g34 (two_put0 _ _ _)
theorem PL.does1 (h : PL w0 w g3 g4 i b0 b1 r0 r1 a0 a1 F) {q : RD} {a' : ADk} {F' : Nat → Option ADk} (hD : Disks w0 w1 (fun _ => True) F' (i + 1)) (hb : F' b1 = some a') (ho : ∀ k, k ≠ b1 → F' k = F k) (hq : DR (i + 1) (fun _ => True) w1 q a') (h8 : Kept8 w w1) (hT : KeptT w w1) : PL w0 (w1.setCells g4 8 q.cells.toList) g3 g4 (i + 1) b0 b1 r0 q a0 a' F' :=
  PL.lay hD (by rw [ho b0 h.ne]; exact h.f0) hb h.ne ((h.d0.kept h8 hT).le (Nat.le_succ i)) hq (hT _ _ _ (by decide) (by decide) h.bd) (hT _ _ _ (by decide) (by decide) h.bl) h.g3l h.g34 (two_put1 _ _ _)
end
theorem DR.olen {j : Nat} {ok : Nat → Prop} {w : World} {r : RD} {a : ADk} (h : DR j ok w r a) : r.ops.2.1 = a.ops.length := by
  obtain ⟨rs, m⟩ := h.mem
  exact (Kd.R_reads' m.ops).1.trans m.rel.len
theorem lop_ld {w : World} {g : Nat} {cs : Array Value} (h : w.heap[g]? = some (.cells cs 57 (0, 0))) (hc : cs.size = 7) : (Instr.loadAt 57 (.pointer (some ⟨g, 0, none⟩))).run Try.prog w = .ok (.agg cs) w := by
  have hld := run_loadVar_row (P := Try.prog) w g 57 57 cs (0, 0) _ h Try.underlying57 rfl (by rw [hc]; exact infoLop)
  simp only [Instr.loadAt, Instr.sureAddr, Sem.run_bind, Sem.run_pure, Result.andThen_ok, hld]
def law_plays.T11 : Bool × List (List Nat × List Nat) := (true, [([], []), ([0], [0]), ([], []), ([2], [2]), ([], []), ([4], [4]), ([5], [5]), ([6], [6]), ([], []), ([8], [8]), ([9], [9]), ([1, 0, 1, 4, 5, 6, 7], [1]), ([11, 7, 7, 0, 1, 4, 5, 6, 7], [7, 11]), ([3, 0, 1, 2, 3, 4, 5, 6, 7, 8, 9, 10, 11, 12], [3]), ([13, 10, 12, 0, 1, 2, 3, 4, 5, 6, 7, 8, 9, 10, 11, 12], [10, 13])])
def law_plays.B11 : List Nat := [0, 1, 0, 4, 0, 16, 48, 112, 0, 256, 768, 243, 2291, 8191, 16383]
theorem law_plays.tab11 : rtab .any (opsOf Try.f7 11) = law_plays.T11 := by kernel_rfl
theorem law_plays.bits11 : waitsOk law_plays.T11.2 law_plays.B11 = true := by kernel_rfl
def law_plays.T13 : Bool × List (List Nat × List Nat) := (true, [([], []), ([], []), ([1], [1]), ([2], [2]), ([], []), ([4], [4]), ([5], [5]), ([], []), ([3, 6, 7], [3, 6, 7]), ([8], [8]), ([9], [9]), ([9], [9]), ([0, 0, 1, 2, 3, 4, 5, 6, 7, 8, 9, 10], [0]), ([12, 10, 8, 0, 1, 2, 3, 4, 5, 6, 7, 8, 9, 10], [10, 12]), ([11, 13, 0, 1, 2, 3, 4, 5, 6, 7, 8, 9, 10, 11, 12, 13], [11])])
def law_plays.B13 : List Nat := [0, 0, 2, 6, 0, 16, 48, 0, 254, 510, 1022, 1022, 2047, 6143, 16383]
theorem law_plays.tab13 : rtab .any (opsOf Try.f7 13) = law_plays.T13 := by kernel_rfl
theorem law_plays.bits13 : waitsOk law_plays.T13.2 law_plays.B13 = true := by kernel_rfl
def law_plays.T14 : Bool × List (List Nat × List Nat) := (true, [([], []), ([0], [0]), ([1], [1]), ([2], [2]), ([3, 2], [2, 3]), ([4, 2], [2, 4]), ([5, 2, 2], [2, 5]), ([2], [2]), ([7, 2], [2, 7]), ([8, 2], [2, 8]), ([9, 2], [2, 9]), ([10, 2], [2, 10]), ([6, 11, 2], [2, 6, 11]), ([2, 12], [2, 12])])
def law_plays.B14 : List Nat := [0, 1, 3, 7, 15, 31, 63, 7, 135, 391, 903, 1927, 4095, 8191]
theorem law_plays.tab14 : rtab .any (opsOf Try.f7 14) = law_plays.T14 := by kernel_rfl
theorem law_plays.bits14 : waitsOk law_plays.T14.2 law_plays.B14 = true := by kernel_rfl
set_option maxRecDepth 100000 in
set_option maxHeartbeats 16000000 in
theorem plays_law (A0 : Option Addr) (c0 : Nat) (xs : List S57) (w : World) (hr : Kd.C k57 w A0 xs.length xs) (hc : xs.length ≤ c0) (hok : ∀ o ∈ xs, o.f4 ≤ 9223372036854775807) :
    Calls Try.prog 7 #[.slice A0 xs.length c0] w fun e w' => e = .returned (.bool true) ∧ Below w.heap.size w w' := by
  have HC := Lib.hid (And.intro hr (And.intro hc hok))
  have HD := Lib.hid (Disks.none_ w 0)
  clear hr hc hok
  go_enter Try.func7, Try.ntmps7
  go_wp2_with fail
  refine (HD.out.new).mono ?_
  rintro e w1 ⟨b0, rfl, F1, hD, hb, hr, hk⟩
  have HD1 := Lib.hid hD
  have HF1 := Lib.hid hb
  clear hD hb hr hk
  go_wp2_with fail
  refine (HD1.out.new).mono ?_
  rintro e w2 ⟨b1, rfl, F2, hD, hb, hr, hk⟩
  have HD2 := Lib.hid hD
  have HF2 := Lib.hid (And.intro hb (hr b0 _ HF1.out))
  clear hD hb hr hk HD1 HF1
  have hrn : RD.new.cells = #[.slice none 0 0, .slice none 0 0, .slice none 0 0, .slice none 0 0, .bool false, .int .i64 (-1), .int .i64 (-1), .int .i64 0] := rfl
  go_upto_region 2 with (fail)
  have HDd := Lib.hid (blk_new w2 (.cells #[.pointer (some ⟨b0, 0, none⟩), .pointer (some ⟨b1, 0, none⟩)] 49))
  have HDk := Lib.hid (HD2.out.below (below_alloc (Below.refl _ _) (.cells #[.pointer (some ⟨b0, 0, none⟩), .pointer (some ⟨b1, 0, none⟩)] 49)))
  have HG3 := Lib.hid HD2.out.bel.size
  generalize w2.alloc _ = W1 at HDd HDk ⊢
  obtain ⟨g3, hg3⟩ : ∃ g, g = w2.heap.size := ⟨_, rfl⟩
  rw [← hg3] at HDd HG3 ⊢
  clear hg3 HD2
  go_wp2_with (fail)
  refine (rnew_calls _).mono ?_
  rintro e w3 ⟨rfl, hb⟩
  rw [hrn]
  have HDd3 := Lib.hid (blk_below HDd.out hb)
  have HDk3 := Lib.hid (HDk.out.below hb)
  clear hb HDd HDk
  go_wp2_with (fail)
  refine (rnew_calls _).mono ?_
  rintro e w4 ⟨rfl, hb⟩
  rw [hrn]
  have HDd4 := Lib.hid (blk_below HDd3.out hb)
  have HDk4 := Lib.hid (HDk3.out.below hb)
  clear hb HDd3 HDk3
  go_upto_region 3 with (fail)
  have H : Hid (PL w (w4.alloc (.cells (two RD.new RD.new) 55)) g3 w4.heap.size 0 b0 b1 RD.new RD.new ADk.new ADk.new F2) := Lib.hid ⟨(HDk4.out.below (below_alloc (Below.refl _ _) _)).mono (fun _ h => h.elim), HF2.out.2.2, HF2.out.1, HF2.out.2.1, DR.new _, DR.new _, blk_alloc HDd4.out _, blk_new _ _, HG3.out, blk_lt HDd4.out⟩
  unfold two RD.new at H
  generalize w4.alloc _ = W2 at H ⊢
  obtain ⟨g4, hg4⟩ : ∃ g, g = w4.heap.size := ⟨_, rfl⟩
  rw [← hg4] at H ⊢
  clear hg4 HDd4 HDk4 HF2 hrn HG3 HD
  skip
  go_wp2_with (fail)
  go_loopw [5] (fun v5 wr => ∃ (i b0 b1 : Nat) (r0 r1 : RD) (a0 a1 : ADk) (F : Nat → Option ADk), i ≤ xs.length ∧ i ≤ 100 ∧ v5 = .int .i64 i ∧ Hid (PL w wr g3 g4 i b0 b1 r0 r1 a0 a1 F)) (fun v5 _ => xs.length - (intOf v5).toNat)
  case atStart => exact ⟨0, b0, b1, RD.new, RD.new, ADk.new, ADk.new, F2, Nat.zero_le _, by decide, rfl, H⟩
  case round =>
    clear H
    obtain ⟨i, b0, b1, r0, r1, a0, a1, F, hi, hi100, rfl, H⟩ := hrel
    by_cases hlt : i < xs.length ∧ i < 100
    · obtain ⟨h1, h2⟩ := hlt
      have hii : (i : Int) < (xs.length : Int) := by omega
      have hi2 : (i : Int) < 100 := by omega
      have hlen := Lib.hid hi
      obtain ⟨ad, cs, hA, hK, hld0⟩ := Gen.load_mid (t := 57) Try.underlying57 rfl infoLop HC.out.1 i h1
      obtain ⟨o, ho⟩ : ∃ o, o = xs[i] := ⟨_, rfl⟩
      have HNb := Lib.hid (show o.f4 ≤ 9223372036854775807 by rw [ho]; exact HC.out.2.2 _ (List.getElem_mem h1))
      rw [← ho] at hK
      clear ho
      obtain ⟨A3, c3, rfl, hc3, hC3⟩ := k57_open hK
      obtain ⟨kk, on, f, Bs, N, x, torn⟩ := o
      simp only at HNb hc3 hC3 hld0 hK
      clear hK
      obtain ⟨L, hL⟩ : ∃ L, L = Bs.length := ⟨_, rfl⟩
      rw [← hL] at hc3 hC3 hld0
      have hld : (Instr.loadAt 57 (.pointer (some (ad.add (i * 7))))).run Try.prog wr = .ok (.agg #[.int .i64 kk, .int .i64 on, .int .i64 f, .slice A3 L c3, .int .i64 N, .int .i64 x, .int .i64 torn]) wr := hld0 wr H.out.disks.bel
      have HB := Lib.hid (And.intro hL (And.intro hc3 hC3))
      clear hld0 hL hc3 hC3
      subst hA
      go_upto_region 7 with (first | (refine wl_load 57 (.tmp 31) rfl rfl _ _ rfl hld ?_) | fail)
      have HO := Lib.hid (blk_new wr (.cells #[.int .i64 kk, .int .i64 on, .int .i64 f, .slice A3 L c3, .int .i64 N, .int .i64 x, .int .i64 torn] 57))
      have H6 := Lib.hid (H.out.below (below_alloc (Below.refl _ _) (.cells #[.int .i64 kk, .int .i64 on, .int .i64 f, .slice A3 L c3, .int .i64 N, .int .i64 x, .int .i64 torn] 57)))
      have HG6 := Lib.hid H.out.disks.bel.size
      clear hld H
      generalize wr.alloc _ = W6 at HO H6 ⊢
      obtain ⟨g6, hg6⟩ : ∃ g, g = wr.heap.size := ⟨_, rfl⟩
      rw [← hg6] at HO HG6 ⊢
      clear hg6
      obtain ⟨m, hm, hm2⟩ := and_bit on
      have c61 : W6.cell? ⟨g6, 1, none⟩ = some (.int .i64 on) := (blk_cell HO.out 1).trans rfl
      have c63 : W6.cell? ⟨g6, 3, none⟩ = some (.slice A3 L c3) := (blk_cell HO.out 3).trans rfl
      have z63 : W6.frozen? ⟨g6, 3, none⟩ = false := blk_frozen HO.out 3
      obtain ⟨i0, hi0, _, hz1, _⟩ := info_parts Low.info8
      go_upto_if 39 with (fail)
      go_cut [] (fun wc => ∃ M X, M ≤ 2000 ∧ Hid (X.length = M ∧ Kd.C ku8 w A3 M X) ∧ Hid (wc.heap[g6]? = some (.cells #[.int .i64 kk, .int .i64 on, .int .i64 f, .slice A3 M c3, .int .i64 N, .int .i64 x, .int .i64 torn] 57 (0, 0))) ∧ Hid (PL w wc g3 g4 i b0 b1 r0 r1 a0 a1 F))
      case first =>
        as_aux_lemma =>
        by_cases h20 : 2000 < L
        · have h20i : (2000 : Int) < (L : Int) := by omega
          have hcut := Low.cut_h (P := Try.prog) 24 5 Try.underlying24 hi0 hz1 A3 L c3 2000 (by have := HB.out; omega)
          simp only [show ((2000 : Nat) : Int) = 2000 from rfl] at hcut
          go_wp2
          go_meet
          case rel => exact ⟨2000, Bs.take 2000, by decide, Lib.hid ⟨by rw [List.length_take]; have := HB.out.1; omega, Low.take_C (by have := HB.out; rw [← this.1]; exact this.2.2) 2000 (by have := HB.out.1; omega)⟩, Lib.hid (blk_set HO.out 3 _), Lib.hid (H6.out.box HG6.out HO.out rfl (grown_set 3 _))⟩
        · have h20i : ¬ (2000 : Int) < (L : Int) := by omega
          go_wp2
          go_meet
          case rel => exact ⟨L, Bs, by omega, Lib.hid ⟨HB.out.1.symm, HB.out.2.2⟩, HO, H6⟩
      case rest =>
        as_aux_lemma =>
        clear HO H6 HB c61 c63 z63 hi0 hz1
        obtain ⟨M, X, hM, HX, HO, H⟩ := hcut
        have c60 : wc.cell? ⟨g6, 0, none⟩ = some (.int .i64 kk) := (blk_cell HO.out 0).trans rfl
        have hm01 : m = 0 ∨ m = 1 := by omega
        clear hm hm2
        by_cases hK8 : kk = 8
        · subst hK8
          rcases hm01 with rfl | rfl
          · as_aux_lemma =>
            go_upto_region 11 with (fail)
            have Hd := Lib.hid (H.out.below (Below.refl wc.heap.size wc).drew)
            have HCy := Lib.hid (Hd.out.disks.copy Hd.out.f0 (by omega))
            have w64 : wrap64 1 = 1 := by decide +kernel
            have cld : wc.drew.cell? ⟨g3, 0, none⟩ = some (.pointer (some ⟨b0, 0, none⟩)) := (blk_cell Hd.out.bd 0).trans rfl
            refine start_ (n := 15) (S := fun w' => (Instr.loadAt 53 (.pointer (some ⟨g4, 0, none⟩))).run Try.prog w' = .ok (.agg r0.cells) w') (ds := [14]) #[false, false, false, false, false, false, false, false, false, false, false, false, false, false, false] (by kernel_rfl) rfl rfl (two_ld0 Hd.out.bl) (fun hHeld => ?_)
            refine with_tabW law_plays.tab11 law_plays.bits11 (fun HT_ HW_ => ?_)
            refine pure_ (i := 0) (N := some 47) (v := ?_) (a' := ?_) #[true, false, false, false, false, false, false, false, false, false, false, false, false, false, false] rfl rfl (any_of HT_.out (by kernel_rfl)) (fun _ _ _ h => h) (Or.inl ⟨by rfl, ?_⟩) ?_ ?_
            rotate_left
            · intro w'
              go_simp
              with_reducible rfl
            rotate_left
            · simp only [Act.put, List.setIfInBounds_toArray, List.set_cons_zero, List.set_cons_succ, i64_w, i32_w]
              rfl
            refine pure_ (i := 1) (N := some 48) (v := ?_) (a' := ?_) #[true, true, false, false, false, false, false, false, false, false, false, false, false, false, false] rfl rfl (any_of HT_.out (by kernel_rfl)) (fun _ _ _ h => h) (Or.inl ⟨by rfl, ?_⟩) ?_ ?_
            rotate_left
            · intro w'
              go_simp
              with_reducible rfl
            rotate_left
            · simp only [Act.put, List.setIfInBounds_toArray, List.set_cons_zero, List.set_cons_succ, i64_w, i32_w]
              rfl
            refine pure_ (i := 2) (N := some 49) (v := ?_) (a' := ?_) #[true, true, true, false, false, false, false, false, false, false, false, false, false, false, false] rfl rfl (any_of HT_.out (by kernel_rfl)) (fun _ _ _ h => h) (Or.inl ⟨by rfl, ?_⟩) ?_ ?_
            rotate_left
            · intro w'
              go_simp
              with_reducible rfl
            rotate_left
            · simp only [Act.put, List.setIfInBounds_toArray, List.set_cons_zero, List.set_cons_succ, i64_w, i32_w]
              rfl
            refine pure_ (i := 3) (N := some 50) (v := ?_) (a' := ?_) #[true, true, true, true, false, false, false, false, false, false, false, false, false, false, false] rfl rfl (any_of HT_.out (by kernel_rfl)) (fun _ _ _ h => h) (Or.inl ⟨by rfl, ?_⟩) ?_ ?_
            rotate_left
            · intro w'
              go_simp
              with_reducible rfl
            rotate_left
            · simp only [Act.put, List.setIfInBounds_toArray, List.set_cons_zero, List.set_cons_succ, i64_w, i32_w]
              rfl
            refine pure_ (i := 4) (N := some 51) (v := ?_) (a' := ?_) #[true, true, true, true, true, false, false, false, false, false, false, false, false, false, false] rfl rfl (any_of HT_.out (by kernel_rfl)) (fun _ _ _ h => h) (Or.inl ⟨by rfl, ?_⟩) ?_ ?_
            rotate_left
            · intro w'
              go_simp
              with_reducible rfl
            rotate_left
            · simp only [Act.put, List.setIfInBounds_toArray, List.set_cons_zero, List.set_cons_succ, i64_w, i32_w]
              rfl
            refine pure_ (i := 5) (N := some 52) (v := ?_) (a' := ?_) #[true, true, true, true, true, true, false, false, false, false, false, false, false, false, false] rfl rfl (any_of HT_.out (by kernel_rfl)) (fun _ _ _ h => h) (Or.inl ⟨by rfl, ?_⟩) ?_ ?_
            rotate_left
            · intro w'
              go_simp
              with_reducible rfl
            rotate_left
            · simp only [Act.put, List.setIfInBounds_toArray, List.set_cons_zero, List.set_cons_succ, i64_w, i32_w]
              rfl
            refine pure_ (i := 8) (N := some 55) (v := ?_) (a' := ?_) #[true, true, true, true, true, true, false, false, true, false, false, false, false, false, false] rfl rfl (any_of HT_.out (by kernel_rfl)) (fun _ _ _ h => h) (Or.inl ⟨by rfl, ?_⟩) ?_ ?_
            rotate_left
            · intro w'
              go_simp
              with_reducible rfl
            rotate_left
            · simp only [Act.put, List.setIfInBounds_toArray, List.set_cons_zero, List.set_cons_succ, i64_w, i32_w]
              rfl
            refine pure_ (i := 9) (N := some 56) (v := ?_) (a' := ?_) #[true, true, true, true, true, true, false, false, true, true, false, false, false, false, false] rfl rfl (any_of HT_.out (by kernel_rfl)) (fun _ _ _ h => h) (Or.inl ⟨by rfl, ?_⟩) ?_ ?_
            rotate_left
            · intro w'
              go_simp
              with_reducible rfl
            rotate_left
            · simp only [Act.put, List.setIfInBounds_toArray, List.set_cons_zero, List.set_cons_succ, i64_w, i32_w]
              rfl
            refine take_ (i := 10) (N := some 57) (v := ?_) (a' := ?_) #[true, true, true, true, true, true, false, false, true, true, true, false, false, false, false] rfl rfl (take_ofW HT_.out HW_.out (by kernel_rfl)) (fun _ _ _ h => h) (Or.inl ⟨by rfl, ?_⟩) hHeld ?_ ?_
            rotate_left
            · intro w' s0
              refine Eq.trans (exec_load (by rfl) (by rfl) s0) ?_
              with_reducible rfl
            rotate_left
            · simp only [Act.put, List.setIfInBounds_toArray, List.set_cons_zero, List.set_cons_succ, i64_w, i32_w]
              rfl
            refine one_ (i := 6) (N := some 53) #[true, true, true, true, true, true, true, false, true, true, true, false, false, false, false] rfl rfl (one_of HT_.out (by kernel_rfl)) (by decide) (fun K hK => ?_)
            refine value_ (w1 := ?_) (v := ?_) (by rfl) rfl ?_ ?_
            rotate_left 2
            · go_simp
              constructor
              · rfl
              · rfl
            refine hK.out _ _ (two_ld0 Hd.out.bl) (fun hHeld => ?_)
            clear hK K
            refine norm_ (a' := ?_) ?_ ?_
            rotate_left
            · show Act.put _ (some 53) _ = _
              simp only [Act.put, List.setIfInBounds_toArray, List.set_cons_zero, List.set_cons_succ, i64_w, i32_w]
              rfl
            refine one_ (i := 7) (N := some 54) #[true, true, true, true, true, true, true, true, true, true, true, false, false, false, false] rfl rfl (one_of HT_.out (by kernel_rfl)) (by decide) (fun K hK => ?_)
            refine goes_ Try.func23 (by kernel_rfl) rfl #[.pointer (some ⟨b0, 0, none⟩)] (by rfl) rfl rfl (by simp only [List.map_toArray, List.map_cons, List.map_nil]; rfl) ?_
            with_reducible refine (HCy.out).mono ?_
            rintro e vc ⟨bc, rfl, Fc, hD, hb, hr, hk⟩
            refine ⟨_, rfl, ?_⟩
            have Hn := Lib.hid (show PL w vc g3 g4 i b0 b1 r0 r1 a0 a1 Fc from ⟨hD, (hr _ _ Hd.out.f0).2, (hr _ _ Hd.out.f1).2, Hd.out.ne, Hd.out.d0.below hk, Hd.out.d1.below hk, blk_below Hd.out.bd hk, blk_below Hd.out.bl hk, Hd.out.g3l, Hd.out.g34⟩)
            have HFc := Lib.hid (And.intro hb (hr _ _ Hd.out.f0).1)
            have cst : vc.cell? ⟨g3, 1, none⟩ = some (.pointer (some ⟨b1, 0, none⟩)) := (blk_cell Hn.out.bd 1).trans rfl
            have zst : vc.frozen? ⟨g3, 1, none⟩ = false := blk_frozen Hn.out.bd 1
            clear hD hb hr hk
            refine hK.out _ _ (two_ld0 Hn.out.bl) (fun hHeld => ?_)
            clear hK K
            refine norm_ (a' := ?_) ?_ ?_
            rotate_left
            · show Act.put _ (some 54) _ = _
              simp only [Act.put, List.setIfInBounds_toArray, List.set_cons_zero, List.set_cons_succ, i64_w, i32_w]
              rfl
            refine pure_ (i := 11) (N := some 58) (v := ?_) (a' := ?_) #[true, true, true, true, true, true, true, true, true, true, true, true, false, false, false] rfl rfl (any_of HT_.out (by kernel_rfl)) (fun _ _ _ h => h) (Or.inl ⟨by rfl, ?_⟩) ?_ ?_
            rotate_left
            · intro w'
              go_simp
              with_reducible rfl
            rotate_left
            · simp only [Act.put, List.setIfInBounds_toArray, List.set_cons_zero, List.set_cons_succ, i64_w, i32_w]
              rfl
            refine one_ (i := 12) (N := none) #[true, true, true, true, true, true, true, true, true, true, true, true, true, false, false] rfl rfl (one_of HT_.out (by kernel_rfl)) (by decide) (fun K hK => ?_)
            refine skip_ (w1 := ?_) (by rfl) rfl ?_ ?_
            rotate_left
            · go_simp
              rfl
            refine hK.out _ _ (two_ld0 (blk_far (p := ⟨g3, 1, none⟩) Hn.out.bl (by have := Hn.out.g34; show g4 ≠ g3; omega) _)) (fun hHeld => ?_)
            clear hK K
            refine pure_ (i := 13) (N := some 59) (v := ?_) (a' := ?_) #[true, true, true, true, true, true, true, true, true, true, true, true, true, true, false] rfl rfl (any_of HT_.out (by kernel_rfl)) (fun _ _ _ h => h) (Or.inl ⟨by rfl, ?_⟩) ?_ ?_
            rotate_left
            · intro w'
              go_simp
              with_reducible rfl
            rotate_left
            · simp only [Act.put, List.setIfInBounds_toArray, List.set_cons_zero, List.set_cons_succ, i64_w, i32_w]
              rfl
            refine last_ (i := 14) (N := none) #[true, true, true, true, true, true, true, true, true, true, true, true, true, true, true] rfl rfl (one_of HT_.out (by kernel_rfl)) (by decide) (fun K hK => ?_)
            refine skip_ (w1 := ?_) (by rfl) rfl ?_ ?_
            rotate_left
            · refine exec_storeM (t := 53) (p := .tmp 59) (v := .tmp 57) (b := g4) (k := 8) (old := two r0 r1) (cells := r0.cells) ?_ ?_ ?_ (blk_far (p := ⟨g3, 1, none⟩) Hn.out.bl (by have := Hn.out.g34; show g4 ≠ g3; omega) _) infoRd (show 8 + 8 ≤ 16 by decide) (by simp [Value.oneCell', RD.cells])
              all_goals rfl
            refine hK.out _ _ ?_
            clear hK K
            refine done_ (done_of HT_.out (by kernel_rfl)) ?_
            
            go_wp2
            go_roundw
            case rel => exact ⟨i + 1, b0, bc, r0, r0, a0, a0, Fc, by have := hlen.out; omega, by omega, by go_num, Lib.hid (Hn.out.copy0 HFc.out.1 HFc.out.2).le⟩
            case measure => simp [intOf]; omega
          · as_aux_lemma =>
            go_upto_region 11 with (fail)
            have Hd := Lib.hid (H.out.below (Below.refl wc.heap.size wc).drew)
            have HCy := Lib.hid (Hd.out.disks.copy Hd.out.f1 (by omega))
            have w64 : wrap64 0 = 0 := by decide +kernel
            have cld : wc.drew.cell? ⟨g3, 1, none⟩ = some (.pointer (some ⟨b1, 0, none⟩)) := (blk_cell Hd.out.bd 1).trans rfl
            refine start_ (n := 15) (S := fun w' => (Instr.loadAt 53 (.pointer (some ⟨g4, 8, none⟩))).run Try.prog w' = .ok (.agg r1.cells) w') (ds := [14]) #[false, false, false, false, false, false, false, false, false, false, false, false, false, false, false] (by kernel_rfl) rfl rfl (two_ld1 Hd.out.bl) (fun hHeld => ?_)
            refine with_tabW law_plays.tab11 law_plays.bits11 (fun HT_ HW_ => ?_)
            refine pure_ (i := 0) (N := some 47) (v := ?_) (a' := ?_) #[true, false, false, false, false, false, false, false, false, false, false, false, false, false, false] rfl rfl (any_of HT_.out (by kernel_rfl)) (fun _ _ _ h => h) (Or.inl ⟨by rfl, ?_⟩) ?_ ?_
            rotate_left
            · intro w'
              go_simp
              with_reducible rfl
            rotate_left
            · simp only [Act.put, List.setIfInBounds_toArray, List.set_cons_zero, List.set_cons_succ, i64_w, i32_w]
              rfl
            refine pure_ (i := 1) (N := some 48) (v := ?_) (a' := ?_) #[true, true, false, false, false, false, false, false, false, false, false, false, false, false, false] rfl rfl (any_of HT_.out (by kernel_rfl)) (fun _ _ _ h => h) (Or.inl ⟨by rfl, ?_⟩) ?_ ?_
            rotate_left
            · intro w'
              go_simp
              with_reducible rfl
            rotate_left
            · simp only [Act.put, List.setIfInBounds_toArray, List.set_cons_zero, List.set_cons_succ, i64_w, i32_w]
              rfl
            refine pure_ (i := 2) (N := some 49) (v := ?_) (a' := ?_) #[true, true, true, false, false, false, false, false, false, false, false, false, false, false, false] rfl rfl (any_of HT_.out (by kernel_rfl)) (fun _ _ _ h => h) (Or.inl ⟨by rfl, ?_⟩) ?_ ?_
            rotate_left
            · intro w'
              go_simp
              with_reducible rfl
            rotate_left
            · simp only [Act.put, List.setIfInBounds_toArray, List.set_cons_zero, List.set_cons_succ, i64_w, i32_w]
              rfl
            refine pure_ (i := 3) (N := some 50) (v := ?_) (a' := ?_) #[true, true, true, true, false, false, false, false, false, false, false, false, false, false, false] rfl rfl (any_of HT_.out (by kernel_rfl)) (fun _ _ _ h => h) (Or.inl ⟨by rfl, ?_⟩) ?_ ?_
            rotate_left
            · intro w'
              go_simp
              with_reducible rfl
            rotate_left
            · simp only [Act.put, List.setIfInBounds_toArray, List.set_cons_zero, List.set_cons_succ, i64_w, i32_w]
              rfl
            refine pure_ (i := 4) (N := some 51) (v := ?_) (a' := ?_) #[true, true, true, true, true, false, false, false, false, false, false, false, false, false, false] rfl rfl (any_of HT_.out (by kernel_rfl)) (fun _ _ _ h => h) (Or.inl ⟨by rfl, ?_⟩) ?_ ?_
            rotate_left
            · intro w'
              go_simp
              with_reducible rfl
            rotate_left
            · simp only [Act.put, List.setIfInBounds_toArray, List.set_cons_zero, List.set_cons_succ, i64_w, i32_w]
              rfl
            refine pure_ (i := 5) (N := some 52) (v := ?_) (a' := ?_) #[true, true, true, true, true, true, false, false, false, false, false, false, false, false, false] rfl rfl (any_of HT_.out (by kernel_rfl)) (fun _ _ _ h => h) (Or.inl ⟨by rfl, ?_⟩) ?_ ?_
            rotate_left
            · intro w'
              go_simp
              with_reducible rfl
            rotate_left
            · simp only [Act.put, List.setIfInBounds_toArray, List.set_cons_zero, List.set_cons_succ, i64_w, i32_w]
              rfl
            refine pure_ (i := 8) (N := some 55) (v := ?_) (a' := ?_) #[true, true, true, true, true, true, false, false, true, false, false, false, false, false, false] rfl rfl (any_of HT_.out (by kernel_rfl)) (fun _ _ _ h => h) (Or.inl ⟨by rfl, ?_⟩) ?_ ?_
            rotate_left
            · intro w'
              go_simp
              with_reducible rfl
            rotate_left
            · simp only [Act.put, List.setIfInBounds_toArray, List.set_cons_zero, List.set_cons_succ, i64_w, i32_w]
              rfl
            refine pure_ (i := 9) (N := some 56) (v := ?_) (a' := ?_) #[true, true, true, true, true, true, false, false, true, true, false, false, false, false, false] rfl rfl (any_of HT_.out (by kernel_rfl)) (fun _ _ _ h => h) (Or.inl ⟨by rfl, ?_⟩) ?_ ?_
            rotate_left
            · intro w'
              go_simp
              with_reducible rfl
            rotate_left
            · simp only [Act.put, List.setIfInBounds_toArray, List.set_cons_zero, List.set_cons_succ, i64_w, i32_w]
              rfl
            refine take_ (i := 10) (N := some 57) (v := ?_) (a' := ?_) #[true, true, true, true, true, true, false, false, true, true, true, false, false, false, false] rfl rfl (take_ofW HT_.out HW_.out (by kernel_rfl)) (fun _ _ _ h => h) (Or.inl ⟨by rfl, ?_⟩) hHeld ?_ ?_
            rotate_left
            · intro w' s0
              refine Eq.trans (exec_load (by rfl) (by rfl) s0) ?_
              with_reducible rfl
            rotate_left
            · simp only [Act.put, List.setIfInBounds_toArray, List.set_cons_zero, List.set_cons_succ, i64_w, i32_w]
              rfl
            refine one_ (i := 6) (N := some 53) #[true, true, true, true, true, true, true, false, true, true, true, false, false, false, false] rfl rfl (one_of HT_.out (by kernel_rfl)) (by decide) (fun K hK => ?_)
            refine value_ (w1 := ?_) (v := ?_) (by rfl) rfl ?_ ?_
            rotate_left 2
            · go_simp
              constructor
              · rfl
              · rfl
            refine hK.out _ _ (two_ld1 Hd.out.bl) (fun hHeld => ?_)
            clear hK K
            refine norm_ (a' := ?_) ?_ ?_
            rotate_left
            · show Act.put _ (some 53) _ = _
              simp only [Act.put, List.setIfInBounds_toArray, List.set_cons_zero, List.set_cons_succ, i64_w, i32_w]
              rfl
            refine one_ (i := 7) (N := some 54) #[true, true, true, true, true, true, true, true, true, true, true, false, false, false, false] rfl rfl (one_of HT_.out (by kernel_rfl)) (by decide) (fun K hK => ?_)
            refine goes_ Try.func23 (by kernel_rfl) rfl #[.pointer (some ⟨b1, 0, none⟩)] (by rfl) rfl rfl (by simp only [List.map_toArray, List.map_cons, List.map_nil]; rfl) ?_
            with_reducible refine (HCy.out).mono ?_
            rintro e vc ⟨bc, rfl, Fc, hD, hb, hr, hk⟩
            refine ⟨_, rfl, ?_⟩
            have Hn := Lib.hid (show PL w vc g3 g4 i b0 b1 r0 r1 a0 a1 Fc from ⟨hD, (hr _ _ Hd.out.f0).2, (hr _ _ Hd.out.f1).2, Hd.out.ne, Hd.out.d0.below hk, Hd.out.d1.below hk, blk_below Hd.out.bd hk, blk_below Hd.out.bl hk, Hd.out.g3l, Hd.out.g34⟩)
            have HFc := Lib.hid (And.intro hb (hr _ _ Hd.out.f1).1)
            have cst : vc.cell? ⟨g3, 0, none⟩ = some (.pointer (some ⟨b0, 0, none⟩)) := (blk_cell Hn.out.bd 0).trans rfl
            have zst : vc.frozen? ⟨g3, 0, none⟩ = false := blk_frozen Hn.out.bd 0
            clear hD hb hr hk
            refine hK.out _ _ (two_ld1 Hn.out.bl) (fun hHeld => ?_)
            clear hK K
            refine norm_ (a' := ?_) ?_ ?_
            rotate_left
            · show Act.put _ (some 54) _ = _
              simp only [Act.put, List.setIfInBounds_toArray, List.set_cons_zero, List.set_cons_succ, i64_w, i32_w]
              rfl
            refine pure_ (i := 11) (N := some 58) (v := ?_) (a' := ?_) #[true, true, true, true, true, true, true, true, true, true, true, true, false, false, false] rfl rfl (any_of HT_.out (by kernel_rfl)) (fun _ _ _ h => h) (Or.inl ⟨by rfl, ?_⟩) ?_ ?_
            rotate_left
            · intro w'
              go_simp
              with_reducible rfl
            rotate_left
            · simp only [Act.put, List.setIfInBounds_toArray, List.set_cons_zero, List.set_cons_succ, i64_w, i32_w]
              rfl
            refine one_ (i := 12) (N := none) #[true, true, true, true, true, true, true, true, true, true, true, true, true, false, false] rfl rfl (one_of HT_.out (by kernel_rfl)) (by decide) (fun K hK => ?_)
            refine skip_ (w1 := ?_) (by rfl) rfl ?_ ?_
            rotate_left
            · go_simp
              rfl
            refine hK.out _ _ (two_ld1 (blk_far (p := ⟨g3, 0, none⟩) Hn.out.bl (by have := Hn.out.g34; show g4 ≠ g3; omega) _)) (fun hHeld => ?_)
            clear hK K
            refine pure_ (i := 13) (N := some 59) (v := ?_) (a' := ?_) #[true, true, true, true, true, true, true, true, true, true, true, true, true, true, false] rfl rfl (any_of HT_.out (by kernel_rfl)) (fun _ _ _ h => h) (Or.inl ⟨by rfl, ?_⟩) ?_ ?_
            rotate_left
            · intro w'
              go_simp
              with_reducible rfl
            rotate_left
            · simp only [Act.put, List.setIfInBounds_toArray, List.set_cons_zero, List.set_cons_succ, i64_w, i32_w]
              rfl
            refine last_ (i := 14) (N := none) #[true, true, true, true, true, true, true, true, true, true, true, true, true, true, true] rfl rfl (one_of HT_.out (by kernel_rfl)) (by decide) (fun K hK => ?_)
            refine skip_ (w1 := ?_) (by rfl) rfl ?_ ?_
            rotate_left
            · refine exec_storeM (t := 53) (p := .tmp 59) (v := .tmp 57) (b := g4) (k := 0) (old := two r0 r1) (cells := r1.cells) ?_ ?_ ?_ (blk_far (p := ⟨g3, 0, none⟩) Hn.out.bl (by have := Hn.out.g34; show g4 ≠ g3; omega) _) infoRd (show 0 + 8 ≤ 16 by decide) (by simp [Value.oneCell', RD.cells])
              all_goals rfl
            refine hK.out _ _ ?_
            clear hK K
            refine done_ (done_of HT_.out (by kernel_rfl)) ?_
            
            go_wp2
            go_roundw
            case rel => exact ⟨i + 1, bc, b1, r1, r1, a1, a1, Fc, by have := hlen.out; omega, by omega, by go_num, Lib.hid (Hn.out.copy1 HFc.out.1 HFc.out.2).le⟩
            case measure => simp [intOf]; omega
        · have hk8 : (kk == 8) = false := by simp [hK8]
          rcases hm01 with rfl | rfl
          · as_aux_lemma =>
            go_upto_region 13 with (fail)
            have Hd := Lib.hid (H.out.below (Below.refl wc.heap.size wc).drew)
            have HOd := Lib.hid (blk_drew HO.out)
            have HDs := Lib.hid (both_calls Hd.out.disks Hd.out.f0 Hd.out.d0 (by omega) kk on f N x torn A3 M c3 HNb.out X HX.out.1 HX.out.2 (by omega))
            refine start_ (n := 15) (S := fun w' => w'.cell? ⟨g3, 0, none⟩ = some (.pointer (some ⟨b0, 0, none⟩)) ∧ (Instr.loadAt 53 (.pointer (some ⟨g4, 0, none⟩))).run Try.prog w' = .ok (.agg r0.cells) w' ∧ (Instr.loadAt 57 (.pointer (some ⟨g6, 0, none⟩))).run Try.prog w' = .ok (.agg #[.int .i64 kk, .int .i64 on, .int .i64 f, .slice A3 M c3, .int .i64 N, .int .i64 x, .int .i64 torn]) w') (ds := [13]) #[false, false, false, false, false, false, false, false, false, false, false, false, false, false, false] (by kernel_rfl) rfl rfl ⟨(blk_cell Hd.out.bd 0).trans rfl, two_ld0 Hd.out.bl, lop_ld HOd.out rfl⟩ (fun hHeld => ?_)
            refine with_tabW law_plays.tab13 law_plays.bits13 (fun HT_ HW_ => ?_)
            refine pure_ (i := 0) (N := some 61) (v := ?_) (a' := ?_) #[true, false, false, false, false, false, false, false, false, false, false, false, false, false, false] rfl rfl (any_of HT_.out (by kernel_rfl)) (fun _ _ _ h => h) (Or.inl ⟨by rfl, ?_⟩) ?_ ?_
            rotate_left
            · intro w'
              go_simp
              with_reducible rfl
            rotate_left
            · simp only [Act.put, List.setIfInBounds_toArray, List.set_cons_zero, List.set_cons_succ, i64_w, i32_w]
              rfl
            refine pure_ (i := 1) (N := some 62) (v := ?_) (a' := ?_) #[true, true, false, false, false, false, false, false, false, false, false, false, false, false, false] rfl rfl (any_of HT_.out (by kernel_rfl)) (fun _ _ _ h => h) (Or.inl ⟨by rfl, ?_⟩) ?_ ?_
            rotate_left
            · intro w'
              go_simp
              with_reducible rfl
            rotate_left
            · simp only [Act.put, List.setIfInBounds_toArray, List.set_cons_zero, List.set_cons_succ, i64_w, i32_w]
              rfl
            refine pure_ (i := 2) (N := some 63) (v := ?_) (a' := ?_) #[true, true, true, false, false, false, false, false, false, false, false, false, false, false, false] rfl rfl (any_of HT_.out (by kernel_rfl)) (fun _ _ _ h => h) (Or.inl ⟨by rfl, ?_⟩) ?_ ?_
            rotate_left
            · intro w'
              go_simp
              with_reducible rfl
            rotate_left
            · simp only [Act.put, List.setIfInBounds_toArray, List.set_cons_zero, List.set_cons_succ, i64_w, i32_w]
              rfl
            refine pure_ (i := 4) (N := some 65) (v := ?_) (a' := ?_) #[true, true, true, false, true, false, false, false, false, false, false, false, false, false, false] rfl rfl (any_of HT_.out (by kernel_rfl)) (fun _ _ _ h => h) (Or.inl ⟨by rfl, ?_⟩) ?_ ?_
            rotate_left
            · intro w'
              go_simp
              with_reducible rfl
            rotate_left
            · simp only [Act.put, List.setIfInBounds_toArray, List.set_cons_zero, List.set_cons_succ, i64_w, i32_w]
              rfl
            refine pure_ (i := 5) (N := some 66) (v := ?_) (a' := ?_) #[true, true, true, false, true, true, false, false, false, false, false, false, false, false, false] rfl rfl (any_of HT_.out (by kernel_rfl)) (fun _ _ _ h => h) (Or.inl ⟨by rfl, ?_⟩) ?_ ?_
            rotate_left
            · intro w'
              go_simp
              with_reducible rfl
            rotate_left
            · simp only [Act.put, List.setIfInBounds_toArray, List.set_cons_zero, List.set_cons_succ, i64_w, i32_w]
              rfl
            refine take_ (i := 3) (N := some 64) (v := ?_) (a' := ?_) #[true, true, true, true, true, true, false, false, false, false, false, false, false, false, false] rfl rfl (take_ofW HT_.out HW_.out (by kernel_rfl)) (fun _ _ _ h => h) (Or.inl ⟨by rfl, ?_⟩) hHeld ?_ ?_
            rotate_left
            · rintro w' ⟨s0, s1, s2⟩
              go_simp
              with_reducible rfl
            rotate_left
            · simp only [Act.put, List.setIfInBounds_toArray, List.set_cons_zero, List.set_cons_succ, i64_w, i32_w]
              rfl
            refine take_ (i := 6) (N := some 67) (v := ?_) (a' := ?_) #[true, true, true, true, true, true, true, false, false, false, false, false, false, false, false] rfl rfl (take_ofW HT_.out HW_.out (by kernel_rfl)) (fun _ _ _ h => h) (Or.inl ⟨by rfl, ?_⟩) hHeld ?_ ?_
            rotate_left
            · rintro w' ⟨s0, s1, s2⟩
              clear s0 s2
              refine Eq.trans (exec_load (by rfl) (by rfl) s1) ?_
              with_reducible rfl
            rotate_left
            · simp only [Act.put, List.setIfInBounds_toArray, List.set_cons_zero, List.set_cons_succ, i64_w, i32_w]
              rfl
            refine take_ (i := 7) (N := some 68) (v := ?_) (a' := ?_) #[true, true, true, true, true, true, true, true, false, false, false, false, false, false, false] rfl rfl (take_ofW HT_.out HW_.out (by kernel_rfl)) (fun _ _ _ h => h) (Or.inl ⟨by rfl, ?_⟩) hHeld ?_ ?_
            rotate_left
            · rintro w' ⟨s0, s1, s2⟩
              clear s0 s1
              refine Eq.trans (exec_load (by rfl) (by rfl) s2) ?_
              with_reducible rfl
            rotate_left
            · simp only [Act.put, List.setIfInBounds_toArray, List.set_cons_zero, List.set_cons_succ, i64_w, i32_w]
              rfl
            refine one_ (i := 8) (N := some 69) #[true, true, true, true, true, true, true, true, true, false, false, false, false, false, false] rfl rfl (one_of HT_.out (by kernel_rfl)) (by decide) (fun K hK => ?_)
            refine goes_ Try.func28 (by kernel_rfl) rfl #[.pointer (some ⟨b0, 0, none⟩), .agg r0.cells, .agg #[.int .i64 kk, .int .i64 on, .int .i64 f, .slice A3 M c3, .int .i64 N, .int .i64 x, .int .i64 torn]] (by rfl) rfl rfl (by simp only [List.map_toArray, List.map_cons, List.map_nil]; rfl) ?_
            with_reducible refine (HDs.out).mono ?_
            rintro e v6 ⟨q, a', F6, rfl, hD, hb, ho, hq, hk8', hkt, hsz⟩
            refine ⟨_, rfl, ?_⟩
            have HDo := Lib.hid (And.intro hD (And.intro hb (And.intro ho (And.intro hq (And.intro hk8' hkt)))))
            have hbd6 := Lib.hid (hkt _ _ _ (by decide) (by decide) Hd.out.bd)
            have hbl6 := Lib.hid (hkt _ _ _ (by decide) (by decide) Hd.out.bl)
            have hbo6 := Lib.hid (hkt _ _ _ (by decide) (by decide) HOd.out)
            clear hD hb ho hq hk8' hkt hsz
            refine hK.out _ _ ⟨(blk_cell hbd6.out 0).trans rfl, two_ld0 hbl6.out, lop_ld hbo6.out rfl⟩ (fun hHeld => ?_)
            clear hK K
            refine norm_ (a' := ?_) ?_ ?_
            rotate_left
            · show Act.put _ (some 69) _ = _
              simp only [Act.put, List.setIfInBounds_toArray, List.set_cons_zero, List.set_cons_succ, i64_w, i32_w]
              rfl
            refine pure_ (i := 9) (N := some 60) (v := ?_) (a' := ?_) #[true, true, true, true, true, true, true, true, true, true, false, false, false, false, false] rfl rfl (any_of HT_.out (by kernel_rfl)) (fun _ _ _ h => h) (Or.inl ⟨by rfl, ?_⟩) ?_ ?_
            rotate_left
            · intro w'
              go_simp
              with_reducible rfl
            rotate_left
            · simp only [Act.put, List.setIfInBounds_toArray, List.set_cons_zero, List.set_cons_succ, i64_w, i32_w]
              rfl
            refine pure_ (i := 10) (N := some 70) (v := ?_) (a' := ?_) #[true, true, true, true, true, true, true, true, true, true, true, false, false, false, false] rfl rfl (any_of HT_.out (by kernel_rfl)) (fun _ _ _ h => h) (Or.inl ⟨by rfl, ?_⟩) ?_ ?_
            rotate_left
            · intro w'
              go_simp
              with_reducible rfl
            rotate_left
            · simp only [Act.put, List.setIfInBounds_toArray, List.set_cons_zero, List.set_cons_succ, i64_w, i32_w]
              rfl
            refine pure_ (i := 11) (N := some 71) (v := ?_) (a' := ?_) #[true, true, true, true, true, true, true, true, true, true, true, true, false, false, false] rfl rfl (any_of HT_.out (by kernel_rfl)) (fun _ _ _ h => h) (Or.inl ⟨by rfl, ?_⟩) ?_ ?_
            rotate_left
            · intro w'
              go_simp
              with_reducible rfl
            rotate_left
            · simp only [Act.put, List.setIfInBounds_toArray, List.set_cons_zero, List.set_cons_succ, i64_w, i32_w]
              rfl
            refine pure_ (i := 12) (N := some 72) (v := ?_) (a' := ?_) #[true, true, true, true, true, true, true, true, true, true, true, true, true, false, false] rfl rfl (any_of HT_.out (by kernel_rfl)) (fun _ _ _ h => h) (Or.inl ⟨by rfl, ?_⟩) ?_ ?_
            rotate_left
            · intro w'
              go_simp
              with_reducible rfl
            rotate_left
            · simp only [Act.put, List.setIfInBounds_toArray, List.set_cons_zero, List.set_cons_succ, i64_w, i32_w]
              rfl
            refine last_ (i := 13) (N := none) #[true, true, true, true, true, true, true, true, true, true, true, true, true, true, false] rfl rfl (one_of HT_.out (by kernel_rfl)) (by decide) (fun K hK => ?_)
            refine skip_ (w1 := ?_) (by rfl) rfl ?_ ?_
            rotate_left
            · refine exec_storeM (t := 53) (p := .tmp 72) (v := .tmp 70) (b := g4) (k := 0) (old := two r0 r1) (cells := q.cells) ?_ ?_ ?_ hbl6.out infoRd (show 0 + 8 ≤ 16 by decide) (by simp [Value.oneCell', RD.cells])
              all_goals rfl
            refine hK.out _ _ ?_
            clear hK K
            refine pure_ (i := 14) (N := some 8) (v := ?_) (a' := ?_) #[true, true, true, true, true, true, true, true, true, true, true, true, true, true, true] rfl rfl (any_of HT_.out (by kernel_rfl)) (fun _ _ _ h => h) (Or.inl ⟨by rfl, ?_⟩) ?_ ?_
            rotate_left
            · intro w'
              go_simp
              with_reducible rfl
            rotate_left
            · simp only [Act.put, List.setIfInBounds_toArray, List.set_cons_zero, List.set_cons_succ, i64_w, i32_w]
              rfl
            refine done_ (done_of HT_.out (by kernel_rfl)) ?_
            
            have H7 := Lib.hid (Hd.out.does0 HDo.out.1 HDo.out.2.1 HDo.out.2.2.1 HDo.out.2.2.2.1 HDo.out.2.2.2.2.1 HDo.out.2.2.2.2.2)
            generalize World.setCells _ g4 0 q.cells.toList = W7 at H7 ⊢
            clear HDo Hd HOd HDs
            go_upto_region 14 with (fail)
            obtain ⟨n7, hn7⟩ : ∃ n, n = a'.ops.length := ⟨_, rfl⟩
            have HP7 := Lib.hid (show q.ops.2.1 = n7 by rw [hn7]; exact H7.out.d0.olen)
            have HPd := Lib.hid (H7.out.disks.below (Below.refl W7.heap.size W7).drew |>.pending H7.out.f0 hn7.symm)
            clear hn7
            have HB7 := Lib.hid (H7.out.below (Below.refl W7.heap.size W7).drew)
            have n1 : ((n7 : Int) != (n7 : Int)) = false := by simp
            have HS7 := Lib.hid (show W7.drew.cell? ⟨g3, 0, none⟩ = some (.pointer (some ⟨b0, 0, none⟩)) ∧ W7.drew.cell? ⟨g4, 3, none⟩ = some (.slice q.ops.1 n7 q.ops.2.2) from ⟨(blk_cell HB7.out.bd 0).trans rfl, by rw [← HP7.out]; exact (blk_cell HB7.out.bl 3).trans rfl⟩)
            refine start_ (n := 14) (S := fun w' => w'.cell? ⟨g3, 0, none⟩ = some (.pointer (some ⟨b0, 0, none⟩)) ∧ w'.cell? ⟨g4, 3, none⟩ = some (.slice q.ops.1 n7 q.ops.2.2)) (ds := []) #[false, false, false, false, false, false, false, false, false, false, false, false, false, false] (by kernel_rfl) rfl rfl ⟨HS7.out.1, HS7.out.2⟩ (fun hHeld => ?_)
            refine with_tabW law_plays.tab14 law_plays.bits14 (fun HT_ HW_ => ?_)
            refine pure_ (i := 0) (N := some 73) (v := ?_) (a' := ?_) #[true, false, false, false, false, false, false, false, false, false, false, false, false, false] rfl rfl (any_of HT_.out (by kernel_rfl)) (fun _ _ _ h => h) (Or.inl ⟨by rfl, ?_⟩) ?_ ?_
            rotate_left
            · intro w'
              go_simp
              with_reducible rfl
            rotate_left
            · simp only [Act.put, List.setIfInBounds_toArray, List.set_cons_zero, List.set_cons_succ, i64_w, i32_w]
              rfl
            refine pure_ (i := 1) (N := some 74) (v := ?_) (a' := ?_) #[true, true, false, false, false, false, false, false, false, false, false, false, false, false] rfl rfl (any_of HT_.out (by kernel_rfl)) (fun _ _ _ h => h) (Or.inl ⟨by rfl, ?_⟩) ?_ ?_
            rotate_left
            · intro w'
              go_simp
              with_reducible rfl
            rotate_left
            · simp only [Act.put, List.setIfInBounds_toArray, List.set_cons_zero, List.set_cons_succ, i64_w, i32_w]
              rfl
            refine pure_ (i := 2) (N := some 75) (v := ?_) (a' := ?_) #[true, true, true, false, false, false, false, false, false, false, false, false, false, false] rfl rfl (any_of HT_.out (by kernel_rfl)) (fun _ _ _ h => h) (Or.inl ⟨by rfl, ?_⟩) ?_ ?_
            rotate_left
            · intro w'
              go_simp
              with_reducible rfl
            rotate_left
            · simp only [Act.put, List.setIfInBounds_toArray, List.set_cons_zero, List.set_cons_succ, i64_w, i32_w]
              rfl
            refine pure_ (i := 3) (N := some 76) (v := ?_) (a' := ?_) #[true, true, true, true, false, false, false, false, false, false, false, false, false, false] rfl rfl (any_of HT_.out (by kernel_rfl)) (fun _ _ _ h => h) (Or.inl ⟨by rfl, ?_⟩) ?_ ?_
            rotate_left
            · intro w'
              go_simp
              with_reducible rfl
            rotate_left
            · simp only [Act.put, List.setIfInBounds_toArray, List.set_cons_zero, List.set_cons_succ, i64_w, i32_w]
              rfl
            refine pure_ (i := 4) (N := some 77) (v := ?_) (a' := ?_) #[true, true, true, true, true, false, false, false, false, false, false, false, false, false] rfl rfl (any_of HT_.out (by kernel_rfl)) (fun _ _ _ h => h) (Or.inl ⟨by rfl, ?_⟩) ?_ ?_
            rotate_left
            · intro w'
              go_simp
              with_reducible rfl
            rotate_left
            · simp only [Act.put, List.setIfInBounds_toArray, List.set_cons_zero, List.set_cons_succ, i64_w, i32_w]
              rfl
            refine pure_ (i := 7) (N := some 80) (v := ?_) (a' := ?_) #[true, true, true, true, true, false, false, true, false, false, false, false, false, false] rfl rfl (any_of HT_.out (by kernel_rfl)) (fun _ _ _ h => h) (Or.inl ⟨by rfl, ?_⟩) ?_ ?_
            rotate_left
            · intro w'
              go_simp
              with_reducible rfl
            rotate_left
            · simp only [Act.put, List.setIfInBounds_toArray, List.set_cons_zero, List.set_cons_succ, i64_w, i32_w]
              rfl
            refine pure_ (i := 8) (N := some 81) (v := ?_) (a' := ?_) #[true, true, true, true, true, false, false, true, true, false, false, false, false, false] rfl rfl (any_of HT_.out (by kernel_rfl)) (fun _ _ _ h => h) (Or.inl ⟨by rfl, ?_⟩) ?_ ?_
            rotate_left
            · intro w'
              go_simp
              with_reducible rfl
            rotate_left
            · simp only [Act.put, List.setIfInBounds_toArray, List.set_cons_zero, List.set_cons_succ, i64_w, i32_w]
              rfl
            refine pure_ (i := 9) (N := some 82) (v := ?_) (a' := ?_) #[true, true, true, true, true, false, false, true, true, true, false, false, false, false] rfl rfl (any_of HT_.out (by kernel_rfl)) (fun _ _ _ h => h) (Or.inl ⟨by rfl, ?_⟩) ?_ ?_
            rotate_left
            · intro w'
              go_simp
              with_reducible rfl
            rotate_left
            · simp only [Act.put, List.setIfInBounds_toArray, List.set_cons_zero, List.set_cons_succ, i64_w, i32_w]
              rfl
            refine take_ (i := 5) (N := some 78) (v := ?_) (a' := ?_) #[true, true, true, true, true, true, false, true, true, true, false, false, false, false] rfl rfl (take_ofW HT_.out HW_.out (by kernel_rfl)) (fun _ _ _ h => h) (Or.inl ⟨by rfl, ?_⟩) hHeld ?_ ?_
            rotate_left
            · rintro w' ⟨s0, s1⟩
              go_simp
              with_reducible rfl
            rotate_left
            · simp only [Act.put, List.setIfInBounds_toArray, List.set_cons_zero, List.set_cons_succ, i64_w, i32_w]
              rfl
            refine take_ (i := 10) (N := some 83) (v := ?_) (a' := ?_) #[true, true, true, true, true, true, false, true, true, true, true, false, false, false] rfl rfl (take_ofW HT_.out HW_.out (by kernel_rfl)) (fun _ _ _ h => h) (Or.inl ⟨by rfl, ?_⟩) hHeld ?_ ?_
            rotate_left
            · rintro w' ⟨s0, s1⟩
              go_simp
              with_reducible rfl
            rotate_left
            · simp only [Act.put, List.setIfInBounds_toArray, List.set_cons_zero, List.set_cons_succ, i64_w, i32_w]
              rfl
            refine pure_ (i := 11) (N := some 84) (v := ?_) (a' := ?_) #[true, true, true, true, true, true, false, true, true, true, true, true, false, false] rfl rfl (any_of HT_.out (by kernel_rfl)) (fun _ _ _ h => h) (Or.inl ⟨by rfl, ?_⟩) ?_ ?_
            rotate_left
            · intro w'
              go_simp
              with_reducible rfl
            rotate_left
            · simp only [Act.put, List.setIfInBounds_toArray, List.set_cons_zero, List.set_cons_succ, i64_w, i32_w]
              rfl
            refine one_ (i := 6) (N := some 79) #[true, true, true, true, true, true, true, true, true, true, true, true, false, false] rfl rfl (one_of HT_.out (by kernel_rfl)) (by decide) (fun K hK => ?_)
            refine goes_ Try.func21 (by kernel_rfl) rfl #[.pointer (some ⟨b0, 0, none⟩)] (by rfl) rfl rfl (by simp only [List.map_toArray, List.map_cons, List.map_nil]; rfl) ?_
            with_reducible refine (HPd.out).mono ?_
            rintro e x4 ⟨rfl, rfl⟩
            refine ⟨_, rfl, ?_⟩
            refine hK.out _ _ ⟨HS7.out.1, HS7.out.2⟩ (fun hHeld => ?_)
            clear hK K
            refine norm_ (a' := ?_) ?_ ?_
            rotate_left
            · show Act.put _ (some 79) _ = _
              simp only [Act.put, List.setIfInBounds_toArray, List.set_cons_zero, List.set_cons_succ, i64_w, i32_w]
              rfl
            refine pure_ (i := 12) (N := some 85) (v := ?_) (a' := ?_) #[true, true, true, true, true, true, true, true, true, true, true, true, true, false] rfl rfl (any_of HT_.out (by kernel_rfl)) (fun _ _ _ h => h) (Or.inl ⟨by rfl, ?_⟩) ?_ ?_
            rotate_left
            · intro w'
              go_simp
              with_reducible rfl
            rotate_left
            · simp only [Act.put, List.setIfInBounds_toArray, List.set_cons_zero, List.set_cons_succ, i64_w, i32_w]
              rfl
            refine pure_ (i := 13) (N := some 86) (v := ?_) (a' := ?_) #[true, true, true, true, true, true, true, true, true, true, true, true, true, true] rfl rfl (any_of HT_.out (by kernel_rfl)) (fun _ _ _ h => h) (Or.inl ⟨by rfl, ?_⟩) ?_ ?_
            rotate_left
            · intro w'
              go_simp
              with_reducible rfl
            rotate_left
            · simp only [Act.put, List.setIfInBounds_toArray, List.set_cons_zero, List.set_cons_succ, i64_w, i32_w]
              rfl
            refine done_ (done_of HT_.out (by kernel_rfl)) ?_
            
            go_wp2
            go_roundw
            case rel => exact ⟨i + 1, b0, b1, q, r1, a', a1, F6, by have := hlen.out; omega, by omega, by go_num, HB7⟩
            case measure => simp [intOf]; omega
          · as_aux_lemma =>
            go_upto_region 13 with (fail)
            have Hd := Lib.hid (H.out.below (Below.refl wc.heap.size wc).drew)
            have HOd := Lib.hid (blk_drew HO.out)
            have HDs := Lib.hid (both_calls Hd.out.disks Hd.out.f1 Hd.out.d1 (by omega) kk on f N x torn A3 M c3 HNb.out X HX.out.1 HX.out.2 (by omega))
            refine start_ (n := 15) (S := fun w' => w'.cell? ⟨g3, 1, none⟩ = some (.pointer (some ⟨b1, 0, none⟩)) ∧ (Instr.loadAt 53 (.pointer (some ⟨g4, 8, none⟩))).run Try.prog w' = .ok (.agg r1.cells) w' ∧ (Instr.loadAt 57 (.pointer (some ⟨g6, 0, none⟩))).run Try.prog w' = .ok (.agg #[.int .i64 kk, .int .i64 on, .int .i64 f, .slice A3 M c3, .int .i64 N, .int .i64 x, .int .i64 torn]) w') (ds := [13]) #[false, false, false, false, false, false, false, false, false, false, false, false, false, false, false] (by kernel_rfl) rfl rfl ⟨(blk_cell Hd.out.bd 1).trans rfl, two_ld1 Hd.out.bl, lop_ld HOd.out rfl⟩ (fun hHeld => ?_)
            refine with_tabW law_plays.tab13 law_plays.bits13 (fun HT_ HW_ => ?_)
            refine pure_ (i := 0) (N := some 61) (v := ?_) (a' := ?_) #[true, false, false, false, false, false, false, false, false, false, false, false, false, false, false] rfl rfl (any_of HT_.out (by kernel_rfl)) (fun _ _ _ h => h) (Or.inl ⟨by rfl, ?_⟩) ?_ ?_
            rotate_left
            · intro w'
              go_simp
              with_reducible rfl
            rotate_left
            · simp only [Act.put, List.setIfInBounds_toArray, List.set_cons_zero, List.set_cons_succ, i64_w, i32_w]
              rfl
            refine pure_ (i := 1) (N := some 62) (v := ?_) (a' := ?_) #[true, true, false, false, false, false, false, false, false, false, false, false, false, false, false] rfl rfl (any_of HT_.out (by kernel_rfl)) (fun _ _ _ h => h) (Or.inl ⟨by rfl, ?_⟩) ?_ ?_
            rotate_left
            · intro w'
              go_simp
              with_reducible rfl
            rotate_left
            · simp only [Act.put, List.setIfInBounds_toArray, List.set_cons_zero, List.set_cons_succ, i64_w, i32_w]
              rfl
            refine pure_ (i := 2) (N := some 63) (v := ?_) (a' := ?_) #[true, true, true, false, false, false, false, false, false, false, false, false, false, false, false] rfl rfl (any_of HT_.out (by kernel_rfl)) (fun _ _ _ h => h) (Or.inl ⟨by rfl, ?_⟩) ?_ ?_
            rotate_left
            · intro w'
              go_simp
              with_reducible rfl
            rotate_left
            · simp only [Act.put, List.setIfInBounds_toArray, List.set_cons_zero, List.set_cons_succ, i64_w, i32_w]
              rfl
            refine pure_ (i := 4) (N := some 65) (v := ?_) (a' := ?_) #[true, true, true, false, true, false, false, false, false, false, false, false, false, false, false] rfl rfl (any_of HT_.out (by kernel_rfl)) (fun _ _ _ h => h) (Or.inl ⟨by rfl, ?_⟩) ?_ ?_
            rotate_left
            · intro w'
              go_simp
              with_reducible rfl
            rotate_left
            · simp only [Act.put, List.setIfInBounds_toArray, List.set_cons_zero, List.set_cons_succ, i64_w, i32_w]
              rfl
            refine pure_ (i := 5) (N := some 66) (v := ?_) (a' := ?_) #[true, true, true, false, true, true, false, false, false, false, false, false, false, false, false] rfl rfl (any_of HT_.out (by kernel_rfl)) (fun _ _ _ h => h) (Or.inl ⟨by rfl, ?_⟩) ?_ ?_
            rotate_left
            · intro w'
              go_simp
              with_reducible rfl
            rotate_left
            · simp only [Act.put, List.setIfInBounds_toArray, List.set_cons_zero, List.set_cons_succ, i64_w, i32_w]
              rfl
            refine take_ (i := 3) (N := some 64) (v := ?_) (a' := ?_) #[true, true, true, true, true, true, false, false, false, false, false, false, false, false, false] rfl rfl (take_ofW HT_.out HW_.out (by kernel_rfl)) (fun _ _ _ h => h) (Or.inl ⟨by rfl, ?_⟩) hHeld ?_ ?_
            rotate_left
            · rintro w' ⟨s0, s1, s2⟩
              go_simp
              with_reducible rfl
            rotate_left
            · simp only [Act.put, List.setIfInBounds_toArray, List.set_cons_zero, List.set_cons_succ, i64_w, i32_w]
              rfl
            refine take_ (i := 6) (N := some 67) (v := ?_) (a' := ?_) #[true, true, true, true, true, true, true, false, false, false, false, false, false, false, false] rfl rfl (take_ofW HT_.out HW_.out (by kernel_rfl)) (fun _ _ _ h => h) (Or.inl ⟨by rfl, ?_⟩) hHeld ?_ ?_
            rotate_left
            · rintro w' ⟨s0, s1, s2⟩
              clear s0 s2
              refine Eq.trans (exec_load (by rfl) (by rfl) s1) ?_
              with_reducible rfl
            rotate_left
            · simp only [Act.put, List.setIfInBounds_toArray, List.set_cons_zero, List.set_cons_succ, i64_w, i32_w]
              rfl
            refine take_ (i := 7) (N := some 68) (v := ?_) (a' := ?_) #[true, true, true, true, true, true, true, true, false, false, false, false, false, false, false] rfl rfl (take_ofW HT_.out HW_.out (by kernel_rfl)) (fun _ _ _ h => h) (Or.inl ⟨by rfl, ?_⟩) hHeld ?_ ?_
            rotate_left
            · rintro w' ⟨s0, s1, s2⟩
              clear s0 s1
              refine Eq.trans (exec_load (by rfl) (by rfl) s2) ?_
              with_reducible rfl
            rotate_left
            · simp only [Act.put, List.setIfInBounds_toArray, List.set_cons_zero, List.set_cons_succ, i64_w, i32_w]
              rfl
            refine one_ (i := 8) (N := some 69) #[true, true, true, true, true, true, true, true, true, false, false, false, false, false, false] rfl rfl (one_of HT_.out (by kernel_rfl)) (by decide) (fun K hK => ?_)
            refine goes_ Try.func28 (by kernel_rfl) rfl #[.pointer (some ⟨b1, 0, none⟩), .agg r1.cells, .agg #[.int .i64 kk, .int .i64 on, .int .i64 f, .slice A3 M c3, .int .i64 N, .int .i64 x, .int .i64 torn]] (by rfl) rfl rfl (by simp only [List.map_toArray, List.map_cons, List.map_nil]; rfl) ?_
            with_reducible refine (HDs.out).mono ?_
            rintro e v6 ⟨q, a', F6, rfl, hD, hb, ho, hq, hk8', hkt, hsz⟩
            refine ⟨_, rfl, ?_⟩
            have HDo := Lib.hid (And.intro hD (And.intro hb (And.intro ho (And.intro hq (And.intro hk8' hkt)))))
            have hbd6 := Lib.hid (hkt _ _ _ (by decide) (by decide) Hd.out.bd)
            have hbl6 := Lib.hid (hkt _ _ _ (by decide) (by decide) Hd.out.bl)
            have hbo6 := Lib.hid (hkt _ _ _ (by decide) (by decide) HOd.out)
            clear hD hb ho hq hk8' hkt hsz
            refine hK.out _ _ ⟨(blk_cell hbd6.out 1).trans rfl, two_ld1 hbl6.out, lop_ld hbo6.out rfl⟩ (fun hHeld => ?_)
            clear hK K
            refine norm_ (a' := ?_) ?_ ?_
            rotate_left
            · show Act.put _ (some 69) _ = _
              simp only [Act.put, List.setIfInBounds_toArray, List.set_cons_zero, List.set_cons_succ, i64_w, i32_w]
              rfl
            refine pure_ (i := 9) (N := some 60) (v := ?_) (a' := ?_) #[true, true, true, true, true, true, true, true, true, true, false, false, false, false, false] rfl rfl (any_of HT_.out (by kernel_rfl)) (fun _ _ _ h => h) (Or.inl ⟨by rfl, ?_⟩) ?_ ?_
            rotate_left
            · intro w'
              go_simp
              with_reducible rfl
            rotate_left
            · simp only [Act.put, List.setIfInBounds_toArray, List.set_cons_zero, List.set_cons_succ, i64_w, i32_w]
              rfl
            refine pure_ (i := 10) (N := some 70) (v := ?_) (a' := ?_) #[true, true, true, true, true, true, true, true, true, true, true, false, false, false, false] rfl rfl (any_of HT_.out (by kernel_rfl)) (fun _ _ _ h => h) (Or.inl ⟨by rfl, ?_⟩) ?_ ?_
            rotate_left
            · intro w'
              go_simp
              with_reducible rfl
            rotate_left
            · simp only [Act.put, List.setIfInBounds_toArray, List.set_cons_zero, List.set_cons_succ, i64_w, i32_w]
              rfl
            refine pure_ (i := 11) (N := some 71) (v := ?_) (a' := ?_) #[true, true, true, true, true, true, true, true, true, true, true, true, false, false, false] rfl rfl (any_of HT_.out (by kernel_rfl)) (fun _ _ _ h => h) (Or.inl ⟨by rfl, ?_⟩) ?_ ?_
            rotate_left
            · intro w'
              go_simp
              with_reducible rfl
            rotate_left
            · simp only [Act.put, List.setIfInBounds_toArray, List.set_cons_zero, List.set_cons_succ, i64_w, i32_w]
              rfl
            refine pure_ (i := 12) (N := some 72) (v := ?_) (a' := ?_) #[true, true, true, true, true, true, true, true, true, true, true, true, true, false, false] rfl rfl (any_of HT_.out (by kernel_rfl)) (fun _ _ _ h => h) (Or.inl ⟨by rfl, ?_⟩) ?_ ?_
            rotate_left
            · intro w'
              go_simp
              with_reducible rfl
            rotate_left
            · simp only [Act.put, List.setIfInBounds_toArray, List.set_cons_zero, List.set_cons_succ, i64_w, i32_w]
              rfl
            refine last_ (i := 13) (N := none) #[true, true, true, true, true, true, true, true, true, true, true, true, true, true, false] rfl rfl (one_of HT_.out (by kernel_rfl)) (by decide) (fun K hK => ?_)
            refine skip_ (w1 := ?_) (by rfl) rfl ?_ ?_
            rotate_left
            · refine exec_storeM (t := 53) (p := .tmp 72) (v := .tmp 70) (b := g4) (k := 8) (old := two r0 r1) (cells := q.cells) ?_ ?_ ?_ hbl6.out infoRd (show 8 + 8 ≤ 16 by decide) (by simp [Value.oneCell', RD.cells])
              all_goals rfl
            refine hK.out _ _ ?_
            clear hK K
            refine pure_ (i := 14) (N := some 8) (v := ?_) (a' := ?_) #[true, true, true, true, true, true, true, true, true, true, true, true, true, true, true] rfl rfl (any_of HT_.out (by kernel_rfl)) (fun _ _ _ h => h) (Or.inl ⟨by rfl, ?_⟩) ?_ ?_
            rotate_left
            · intro w'
              go_simp
              with_reducible rfl
            rotate_left
            · simp only [Act.put, List.setIfInBounds_toArray, List.set_cons_zero, List.set_cons_succ, i64_w, i32_w]
              rfl
            refine done_ (done_of HT_.out (by kernel_rfl)) ?_
            
            have H7 := Lib.hid (Hd.out.does1 HDo.out.1 HDo.out.2.1 HDo.out.2.2.1 HDo.out.2.2.2.1 HDo.out.2.2.2.2.1 HDo.out.2.2.2.2.2)
            generalize World.setCells _ g4 8 q.cells.toList = W7 at H7 ⊢
            clear HDo Hd HOd HDs
            go_upto_region 14 with (fail)
            obtain ⟨n7, hn7⟩ : ∃ n, n = a'.ops.length := ⟨_, rfl⟩
            have HP7 := Lib.hid (show q.ops.2.1 = n7 by rw [hn7]; exact H7.out.d1.olen)
            have HPd := Lib.hid (H7.out.disks.below (Below.refl W7.heap.size W7).drew |>.pending H7.out.f1 hn7.symm)
            clear hn7
            have HB7 := Lib.hid (H7.out.below (Below.refl W7.heap.size W7).drew)
            have n1 : ((n7 : Int) != (n7 : Int)) = false := by simp
            have HS7 := Lib.hid (show W7.drew.cell? ⟨g3, 1, none⟩ = some (.pointer (some ⟨b1, 0, none⟩)) ∧ W7.drew.cell? ⟨g4, 11, none⟩ = some (.slice q.ops.1 n7 q.ops.2.2) from ⟨(blk_cell HB7.out.bd 1).trans rfl, by rw [← HP7.out]; exact (blk_cell HB7.out.bl 11).trans rfl⟩)
            refine start_ (n := 14) (S := fun w' => w'.cell? ⟨g3, 1, none⟩ = some (.pointer (some ⟨b1, 0, none⟩)) ∧ w'.cell? ⟨g4, 11, none⟩ = some (.slice q.ops.1 n7 q.ops.2.2)) (ds := []) #[false, false, false, false, false, false, false, false, false, false, false, false, false, false] (by kernel_rfl) rfl rfl ⟨HS7.out.1, HS7.out.2⟩ (fun hHeld => ?_)
            refine with_tabW law_plays.tab14 law_plays.bits14 (fun HT_ HW_ => ?_)
            refine pure_ (i := 0) (N := some 73) (v := ?_) (a' := ?_) #[true, false, false, false, false, false, false, false, false, false, false, false, false, false] rfl rfl (any_of HT_.out (by kernel_rfl)) (fun _ _ _ h => h) (Or.inl ⟨by rfl, ?_⟩) ?_ ?_
            rotate_left
            · intro w'
              go_simp
              with_reducible rfl
            rotate_left
            · simp only [Act.put, List.setIfInBounds_toArray, List.set_cons_zero, List.set_cons_succ, i64_w, i32_w]
              rfl
            refine pure_ (i := 1) (N := some 74) (v := ?_) (a' := ?_) #[true, true, false, false, false, false, false, false, false, false, false, false, false, false] rfl rfl (any_of HT_.out (by kernel_rfl)) (fun _ _ _ h => h) (Or.inl ⟨by rfl, ?_⟩) ?_ ?_
            rotate_left
            · intro w'
              go_simp
              with_reducible rfl
            rotate_left
            · simp only [Act.put, List.setIfInBounds_toArray, List.set_cons_zero, List.set_cons_succ, i64_w, i32_w]
              rfl
            refine pure_ (i := 2) (N := some 75) (v := ?_) (a' := ?_) #[true, true, true, false, false, false, false, false, false, false, false, false, false, false] rfl rfl (any_of HT_.out (by kernel_rfl)) (fun _ _ _ h => h) (Or.inl ⟨by rfl, ?_⟩) ?_ ?_
            rotate_left
            · intro w'
              go_simp
              with_reducible rfl
            rotate_left
            · simp only [Act.put, List.setIfInBounds_toArray, List.set_cons_zero, List.set_cons_succ, i64_w, i32_w]
              rfl
            refine pure_ (i := 3) (N := some 76) (v := ?_) (a' := ?_) #[true, true, true, true, false, false, false, false, false, false, false, false, false, false] rfl rfl (any_of HT_.out (by kernel_rfl)) (fun _ _ _ h => h) (Or.inl ⟨by rfl, ?_⟩) ?_ ?_
            rotate_left
            · intro w'
              go_simp
              with_reducible rfl
            rotate_left
            · simp only [Act.put, List.setIfInBounds_toArray, List.set_cons_zero, List.set_cons_succ, i64_w, i32_w]
              rfl
            refine pure_ (i := 4) (N := some 77) (v := ?_) (a' := ?_) #[true, true, true, true, true, false, false, false, false, false, false, false, false, false] rfl rfl (any_of HT_.out (by kernel_rfl)) (fun _ _ _ h => h) (Or.inl ⟨by rfl, ?_⟩) ?_ ?_
            rotate_left
            · intro w'
              go_simp
              with_reducible rfl
            rotate_left
            · simp only [Act.put, List.setIfInBounds_toArray, List.set_cons_zero, List.set_cons_succ, i64_w, i32_w]
              rfl
            refine pure_ (i := 7) (N := some 80) (v := ?_) (a' := ?_) #[true, true, true, true, true, false, false, true, false, false, false, false, false, false] rfl rfl (any_of HT_.out (by kernel_rfl)) (fun _ _ _ h => h) (Or.inl ⟨by rfl, ?_⟩) ?_ ?_
            rotate_left
            · intro w'
              go_simp
              with_reducible rfl
            rotate_left
            · simp only [Act.put, List.setIfInBounds_toArray, List.set_cons_zero, List.set_cons_succ, i64_w, i32_w]
              rfl
            refine pure_ (i := 8) (N := some 81) (v := ?_) (a' := ?_) #[true, true, true, true, true, false, false, true, true, false, false, false, false, false] rfl rfl (any_of HT_.out (by kernel_rfl)) (fun _ _ _ h => h) (Or.inl ⟨by rfl, ?_⟩) ?_ ?_
            rotate_left
            · intro w'
              go_simp
              with_reducible rfl
            rotate_left
            · simp only [Act.put, List.setIfInBounds_toArray, List.set_cons_zero, List.set_cons_succ, i64_w, i32_w]
              rfl
            refine pure_ (i := 9) (N := some 82) (v := ?_) (a' := ?_) #[true, true, true, true, true, false, false, true, true, true, false, false, false, false] rfl rfl (any_of HT_.out (by kernel_rfl)) (fun _ _ _ h => h) (Or.inl ⟨by rfl, ?_⟩) ?_ ?_
            rotate_left
            · intro w'
              go_simp
              with_reducible rfl
            rotate_left
            · simp only [Act.put, List.setIfInBounds_toArray, List.set_cons_zero, List.set_cons_succ, i64_w, i32_w]
              rfl
            refine take_ (i := 5) (N := some 78) (v := ?_) (a' := ?_) #[true, true, true, true, true, true, false, true, true, true, false, false, false, false] rfl rfl (take_ofW HT_.out HW_.out (by kernel_rfl)) (fun _ _ _ h => h) (Or.inl ⟨by rfl, ?_⟩) hHeld ?_ ?_
            rotate_left
            · rintro w' ⟨s0, s1⟩
              go_simp
              with_reducible rfl
            rotate_left
            · simp only [Act.put, List.setIfInBounds_toArray, List.set_cons_zero, List.set_cons_succ, i64_w, i32_w]
              rfl
            refine take_ (i := 10) (N := some 83) (v := ?_) (a' := ?_) #[true, true, true, true, true, true, false, true, true, true, true, false, false, false] rfl rfl (take_ofW HT_.out HW_.out (by kernel_rfl)) (fun _ _ _ h => h) (Or.inl ⟨by rfl, ?_⟩) hHeld ?_ ?_
            rotate_left
            · rintro w' ⟨s0, s1⟩
              go_simp
              with_reducible rfl
            rotate_left
            · simp only [Act.put, List.setIfInBounds_toArray, List.set_cons_zero, List.set_cons_succ, i64_w, i32_w]
              rfl
            refine pure_ (i := 11) (N := some 84) (v := ?_) (a' := ?_) #[true, true, true, true, true, true, false, true, true, true, true, true, false, false] rfl rfl (any_of HT_.out (by kernel_rfl)) (fun _ _ _ h => h) (Or.inl ⟨by rfl, ?_⟩) ?_ ?_
            rotate_left
            · intro w'
              go_simp
              with_reducible rfl
            rotate_left
            · simp only [Act.put, List.setIfInBounds_toArray, List.set_cons_zero, List.set_cons_succ, i64_w, i32_w]
              rfl
            refine one_ (i := 6) (N := some 79) #[true, true, true, true, true, true, true, true, true, true, true, true, false, false] rfl rfl (one_of HT_.out (by kernel_rfl)) (by decide) (fun K hK => ?_)
            refine goes_ Try.func21 (by kernel_rfl) rfl #[.pointer (some ⟨b1, 0, none⟩)] (by rfl) rfl rfl (by simp only [List.map_toArray, List.map_cons, List.map_nil]; rfl) ?_
            with_reducible refine (HPd.out).mono ?_
            rintro e x4 ⟨rfl, rfl⟩
            refine ⟨_, rfl, ?_⟩
            refine hK.out _ _ ⟨HS7.out.1, HS7.out.2⟩ (fun hHeld => ?_)
            clear hK K
            refine norm_ (a' := ?_) ?_ ?_
            rotate_left
            · show Act.put _ (some 79) _ = _
              simp only [Act.put, List.setIfInBounds_toArray, List.set_cons_zero, List.set_cons_succ, i64_w, i32_w]
              rfl
            refine pure_ (i := 12) (N := some 85) (v := ?_) (a' := ?_) #[true, true, true, true, true, true, true, true, true, true, true, true, true, false] rfl rfl (any_of HT_.out (by kernel_rfl)) (fun _ _ _ h => h) (Or.inl ⟨by rfl, ?_⟩) ?_ ?_
            rotate_left
            · intro w'
              go_simp
              with_reducible rfl
            rotate_left
            · simp only [Act.put, List.setIfInBounds_toArray, List.set_cons_zero, List.set_cons_succ, i64_w, i32_w]
              rfl
            refine pure_ (i := 13) (N := some 86) (v := ?_) (a' := ?_) #[true, true, true, true, true, true, true, true, true, true, true, true, true, true] rfl rfl (any_of HT_.out (by kernel_rfl)) (fun _ _ _ h => h) (Or.inl ⟨by rfl, ?_⟩) ?_ ?_
            rotate_left
            · intro w'
              go_simp
              with_reducible rfl
            rotate_left
            · simp only [Act.put, List.setIfInBounds_toArray, List.set_cons_zero, List.set_cons_succ, i64_w, i32_w]
              rfl
            refine done_ (done_of HT_.out (by kernel_rfl)) ?_
            
            go_wp2
            go_roundw
            case rel => exact ⟨i + 1, b0, b1, r0, q, a0, a', F6, by have := hlen.out; omega, by omega, by go_num, HB7⟩
            case measure => simp [intOf]; omega
    · have hge : ¬ ((i : Int) < (xs.length : Int) ∧ (i : Int) < 100) := by omega
      have he : i = xs.length ∨ (i < xs.length ∧ i = 100) := by omega
      have H9 := H
      obtain ⟨Wk, hWk⟩ : ∃ x, x = wr := ⟨_, rfl⟩
      rw [← hWk] at H H9 ⊢
      clear hWk hlt hge
      rcases he with he | ⟨he1, he⟩
      · as_aux_lemma =>
        have hnl : ¬ ((i : Int) < (xs.length : Int)) := by omega
        go_wp2_with (fail)
        go_loopw [9] (fun v9 wr2 => ∃ k : Nat, k ≤ 2 ∧ v9 = .int .i64 k ∧ Hid (PL w wr2 g3 g4 i b0 b1 r0 r1 a0 a1 F)) (fun v9 _ => 2 - (intOf v9).toNat)
        case atStart => exact ⟨0, by decide, rfl, H⟩
        case round =>
          clear H H9
          obtain ⟨k, hk, rfl, H⟩ := hrel
          obtain ⟨Wm, hWm⟩ : ∃ x, x = wr := ⟨_, rfl⟩
          rw [← hWm] at H ⊢
          clear hWm
          by_cases hk2 : k = 2
          · subst hk2
            go_wp2_with fail
            refine (awake_calls _).mono ?_
            rintro e w9 ⟨rfl, hb⟩
            have HB9 := Lib.hid (below_then H.out.disks.bel H.out.disks.bel.size hb)
            clear hb
            go_wp2
            go_ret
            exact ⟨rfl, HB9.out⟩
          · have hk01 : k = 0 ∨ k = 1 := by omega
            have hki : (k : Int) < 2 := by omega
            clear hk2
            go_wp2_with (fail)
            go_loopw [10] (fun v10 wr3 => ∃ f : Nat, f ≤ 3 ∧ v10 = .int .i64 f ∧ Hid (PL w wr3 g3 g4 i b0 b1 r0 r1 a0 a1 F)) (fun v10 _ => 3 - (intOf v10).toNat)
            case atStart => exact ⟨0, by decide, rfl, H⟩
            case round =>
              clear H
              obtain ⟨f, hf, rfl, H⟩ := hrel
              by_cases hf3 : f = 3
              · subst hf3
                go_wp2
                go_roundw
                case rel => first | exact ⟨k + 1, by omega, by go_num, H⟩ | ((repeat apply Exists.intro); exact ⟨⟨k + 1, by omega, by go_num, H⟩, rfl⟩)
                case measure => simp [intOf]; omega
              · have hf012 : f = 0 ∨ f = 1 ∨ f = 2 := by omega
                clear hf3 hki
                rcases hk01 with rfl | rfl <;> rcases hf012 with rfl | rfl | rfl
                · as_aux_lemma =>
                  obtain ⟨X, hX⟩ : ∃ X, X = a0.safe.get 0 := ⟨_, rfl⟩
                  obtain ⟨n, hn⟩ : ∃ n, X.length = n := ⟨_, rfl⟩
                  have hby := (H.out.d0.mem.elim fun rs m => m.f.get 0)
                  rw [← hX] at hby
                  have HBy := Lib.hid hby
                  have HNl := Lib.hid hn
                  have HDu := Lib.hid (H.out.disks.durable H.out.f0 0 (x := X) (z := 0) (by rw [hX]; rfl))
                  have cd : wr.cell? ⟨g3, 0, none⟩ = some (.pointer (some ⟨b0, 0, none⟩)) := (blk_cell H.out.bd 0).trans rfl
                  clear hX hby hn
                  go_wp2_with fail
                  refine HDu.out.mono ?_
                  rintro e w1 hp
                  obtain ⟨A1, c1, rfl, hc, hb⟩ := hp.lenC HNl.out
                  clear hp
                  have H1 := Lib.hid (H.out.below hb)
                  have HC1 := Lib.hid hc
                  have hrd := (HBy.out.below hb).reads
                  rw [HNl.out] at hrd
                  have HRd := Lib.hid hrd
                  clear hc hb
                  have cl : w1.cell? ⟨g4, 0, none⟩ = some (.slice (r0.f.get 0).1 n (r0.f.get 0).2.2) := by rw [← HRd.out.1]; exact (blk_cell H1.out.bl 0).trans rfl
                  clear hrd
                  go_wp2_with fail
                  refine (same_eq A1 c1 X n HNl.out _ _ w1 HC1.out HRd.out.2.2).mono ?_
                  rintro e w2 ⟨rfl, hd⟩
                  have H2 := Lib.hid (H1.out.below hd.below)
                  clear hd cd cl
                  go_wp2
                  go_roundw
                  case rel => first | exact ⟨1, by decide, by first | rfl | go_num, H2⟩ | ((repeat apply Exists.intro); exact ⟨⟨1, by decide, by first | rfl | go_num, H2⟩, rfl⟩)
                  case measure => simp [intOf]
                · as_aux_lemma =>
                  obtain ⟨X, hX⟩ : ∃ X, X = a0.safe.get 1 := ⟨_, rfl⟩
                  obtain ⟨n, hn⟩ : ∃ n, X.length = n := ⟨_, rfl⟩
                  have hby := (H.out.d0.mem.elim fun rs m => m.f.get 1)
                  rw [← hX] at hby
                  have HBy := Lib.hid hby
                  have HNl := Lib.hid hn
                  have HDu := Lib.hid (H.out.disks.durable H.out.f0 1 (x := X) (z := 0) (by rw [hX]; rfl))
                  have cd : wr.cell? ⟨g3, 0, none⟩ = some (.pointer (some ⟨b0, 0, none⟩)) := (blk_cell H.out.bd 0).trans rfl
                  clear hX hby hn
                  go_wp2_with fail
                  refine HDu.out.mono ?_
                  rintro e w1 hp
                  obtain ⟨A1, c1, rfl, hc, hb⟩ := hp.lenC HNl.out
                  clear hp
                  have H1 := Lib.hid (H.out.below hb)
                  have HC1 := Lib.hid hc
                  have hrd := (HBy.out.below hb).reads
                  rw [HNl.out] at hrd
                  have HRd := Lib.hid hrd
                  clear hc hb
                  have cl : w1.cell? ⟨g4, 1, none⟩ = some (.slice (r0.f.get 1).1 n (r0.f.get 1).2.2) := by rw [← HRd.out.1]; exact (blk_cell H1.out.bl 1).trans rfl
                  clear hrd
                  go_wp2_with fail
                  refine (same_eq A1 c1 X n HNl.out _ _ w1 HC1.out HRd.out.2.2).mono ?_
                  rintro e w2 ⟨rfl, hd⟩
                  have H2 := Lib.hid (H1.out.below hd.below)
                  clear hd cd cl
                  go_wp2
                  go_roundw
                  case rel => first | exact ⟨2, by decide, by first | rfl | go_num, H2⟩ | ((repeat apply Exists.intro); exact ⟨⟨2, by decide, by first | rfl | go_num, H2⟩, rfl⟩)
                  case measure => simp [intOf]
                · as_aux_lemma =>
                  obtain ⟨X, hX⟩ : ∃ X, X = a0.safe.get 2 := ⟨_, rfl⟩
                  obtain ⟨n, hn⟩ : ∃ n, X.length = n := ⟨_, rfl⟩
                  have hby := (H.out.d0.mem.elim fun rs m => m.f.get 2)
                  rw [← hX] at hby
                  have HBy := Lib.hid hby
                  have HNl := Lib.hid hn
                  have HDu := Lib.hid (H.out.disks.durable H.out.f0 2 (x := X) (z := 0) (by rw [hX]; rfl))
                  have cd : wr.cell? ⟨g3, 0, none⟩ = some (.pointer (some ⟨b0, 0, none⟩)) := (blk_cell H.out.bd 0).trans rfl
                  clear hX hby hn
                  go_wp2_with fail
                  refine HDu.out.mono ?_
                  rintro e w1 hp
                  obtain ⟨A1, c1, rfl, hc, hb⟩ := hp.lenC HNl.out
                  clear hp
                  have H1 := Lib.hid (H.out.below hb)
                  have HC1 := Lib.hid hc
                  have hrd := (HBy.out.below hb).reads
                  rw [HNl.out] at hrd
                  have HRd := Lib.hid hrd
                  clear hc hb
                  have cl : w1.cell? ⟨g4, 2, none⟩ = some (.slice (r0.f.get 2).1 n (r0.f.get 2).2.2) := by rw [← HRd.out.1]; exact (blk_cell H1.out.bl 2).trans rfl
                  clear hrd
                  go_wp2_with fail
                  refine (same_eq A1 c1 X n HNl.out _ _ w1 HC1.out HRd.out.2.2).mono ?_
                  rintro e w2 ⟨rfl, hd⟩
                  have H2 := Lib.hid (H1.out.below hd.below)
                  clear hd cd cl
                  go_wp2
                  go_roundw
                  case rel => first | exact ⟨3, by decide, by first | rfl | go_num, H2⟩ | ((repeat apply Exists.intro); exact ⟨⟨3, by decide, by first | rfl | go_num, H2⟩, rfl⟩)
                  case measure => simp [intOf]
                · as_aux_lemma =>
                  obtain ⟨X, hX⟩ : ∃ X, X = a1.safe.get 0 := ⟨_, rfl⟩
                  obtain ⟨n, hn⟩ : ∃ n, X.length = n := ⟨_, rfl⟩
                  have hby := (H.out.d1.mem.elim fun rs m => m.f.get 0)
                  rw [← hX] at hby
                  have HBy := Lib.hid hby
                  have HNl := Lib.hid hn
                  have HDu := Lib.hid (H.out.disks.durable H.out.f1 0 (x := X) (z := 0) (by rw [hX]; rfl))
                  have cd : wr.cell? ⟨g3, 1, none⟩ = some (.pointer (some ⟨b1, 0, none⟩)) := (blk_cell H.out.bd 1).trans rfl
                  clear hX hby hn
                  go_wp2_with fail
                  refine HDu.out.mono ?_
                  rintro e w1 hp
                  obtain ⟨A1, c1, rfl, hc, hb⟩ := hp.lenC HNl.out
                  clear hp
                  have H1 := Lib.hid (H.out.below hb)
                  have HC1 := Lib.hid hc
                  have hrd := (HBy.out.below hb).reads
                  rw [HNl.out] at hrd
                  have HRd := Lib.hid hrd
                  clear hc hb
                  have cl : w1.cell? ⟨g4, 8, none⟩ = some (.slice (r1.f.get 0).1 n (r1.f.get 0).2.2) := by rw [← HRd.out.1]; exact (blk_cell H1.out.bl 8).trans rfl
                  clear hrd
                  go_wp2_with fail
                  refine (same_eq A1 c1 X n HNl.out _ _ w1 HC1.out HRd.out.2.2).mono ?_
                  rintro e w2 ⟨rfl, hd⟩
                  have H2 := Lib.hid (H1.out.below hd.below)
                  clear hd cd cl
                  go_wp2
                  go_roundw
                  case rel => first | exact ⟨1, by decide, by first | rfl | go_num, H2⟩ | ((repeat apply Exists.intro); exact ⟨⟨1, by decide, by first | rfl | go_num, H2⟩, rfl⟩)
                  case measure => simp [intOf]
                · as_aux_lemma =>
                  obtain ⟨X, hX⟩ : ∃ X, X = a1.safe.get 1 := ⟨_, rfl⟩
                  obtain ⟨n, hn⟩ : ∃ n, X.length = n := ⟨_, rfl⟩
                  have hby := (H.out.d1.mem.elim fun rs m => m.f.get 1)
                  rw [← hX] at hby
                  have HBy := Lib.hid hby
                  have HNl := Lib.hid hn
                  have HDu := Lib.hid (H.out.disks.durable H.out.f1 1 (x := X) (z := 0) (by rw [hX]; rfl))
                  have cd : wr.cell? ⟨g3, 1, none⟩ = some (.pointer (some ⟨b1, 0, none⟩)) := (blk_cell H.out.bd 1).trans rfl
                  clear hX hby hn
                  go_wp2_with fail
                  refine HDu.out.mono ?_
                  rintro e w1 hp
                  obtain ⟨A1, c1, rfl, hc, hb⟩ := hp.lenC HNl.out
                  clear hp
                  have H1 := Lib.hid (H.out.below hb)
                  have HC1 := Lib.hid hc
                  have hrd := (HBy.out.below hb).reads
                  rw [HNl.out] at hrd
                  have HRd := Lib.hid hrd
                  clear hc hb
                  have cl : w1.cell? ⟨g4, 9, none⟩ = some (.slice (r1.f.get 1).1 n (r1.f.get 1).2.2) := by rw [← HRd.out.1]; exact (blk_cell H1.out.bl 9).trans rfl
                  clear hrd
                  go_wp2_with fail
                  refine (same_eq A1 c1 X n HNl.out _ _ w1 HC1.out HRd.out.2.2).mono ?_
                  rintro e w2 ⟨rfl, hd⟩
                  have H2 := Lib.hid (H1.out.below hd.below)
                  clear hd cd cl
                  go_wp2
                  go_roundw
                  case rel => first | exact ⟨2, by decide, by first | rfl | go_num, H2⟩ | ((repeat apply Exists.intro); exact ⟨⟨2, by decide, by first | rfl | go_num, H2⟩, rfl⟩)
                  case measure => simp [intOf]
                · as_aux_lemma =>
                  obtain ⟨X, hX⟩ : ∃ X, X = a1.safe.get 2 := ⟨_, rfl⟩
                  obtain ⟨n, hn⟩ : ∃ n, X.length = n := ⟨_, rfl⟩
                  have hby := (H.out.d1.mem.elim fun rs m => m.f.get 2)
                  rw [← hX] at hby
                  have HBy := Lib.hid hby
                  have HNl := Lib.hid hn
                  have HDu := Lib.hid (H.out.disks.durable H.out.f1 2 (x := X) (z := 0) (by rw [hX]; rfl))
                  have cd : wr.cell? ⟨g3, 1, none⟩ = some (.pointer (some ⟨b1, 0, none⟩)) := (blk_cell H.out.bd 1).trans rfl
                  clear hX hby hn
                  go_wp2_with fail
                  refine HDu.out.mono ?_
                  rintro e w1 hp
                  obtain ⟨A1, c1, rfl, hc, hb⟩ := hp.lenC HNl.out
                  clear hp
                  have H1 := Lib.hid (H.out.below hb)
                  have HC1 := Lib.hid hc
                  have hrd := (HBy.out.below hb).reads
                  rw [HNl.out] at hrd
                  have HRd := Lib.hid hrd
                  clear hc hb
                  have cl : w1.cell? ⟨g4, 10, none⟩ = some (.slice (r1.f.get 2).1 n (r1.f.get 2).2.2) := by rw [← HRd.out.1]; exact (blk_cell H1.out.bl 10).trans rfl
                  clear hrd
                  go_wp2_with fail
                  refine (same_eq A1 c1 X n HNl.out _ _ w1 HC1.out HRd.out.2.2).mono ?_
                  rintro e w2 ⟨rfl, hd⟩
                  have H2 := Lib.hid (H1.out.below hd.below)
                  clear hd cd cl
                  go_wp2
                  go_roundw
                  case rel => first | exact ⟨3, by decide, by first | rfl | go_num, H2⟩ | ((repeat apply Exists.intro); exact ⟨⟨3, by decide, by first | rfl | go_num, H2⟩, rfl⟩)
                  case measure => simp [intOf]
      · as_aux_lemma =>
        have hil : (i : Int) < (xs.length : Int) := by omega
        have hi1 : ¬ ((i : Int) < 100) := by omega
        go_wp2_with (fail)
        go_loopw [9] (fun v9 wr2 => ∃ k : Nat, k ≤ 2 ∧ v9 = .int .i64 k ∧ Hid (PL w wr2 g3 g4 i b0 b1 r0 r1 a0 a1 F)) (fun v9 _ => 2 - (intOf v9).toNat)
        case atStart => exact ⟨0, by decide, rfl, H⟩
        case round =>
          clear H H9
          obtain ⟨k, hk, rfl, H⟩ := hrel
          obtain ⟨Wm, hWm⟩ : ∃ x, x = wr := ⟨_, rfl⟩
          rw [← hWm] at H ⊢
          clear hWm
          by_cases hk2 : k = 2
          · subst hk2
            go_wp2_with fail
            refine (awake_calls _).mono ?_
            rintro e w9 ⟨rfl, hb⟩
            have HB9 := Lib.hid (below_then H.out.disks.bel H.out.disks.bel.size hb)
            clear hb
            go_wp2
            go_ret
            exact ⟨rfl, HB9.out⟩
          · have hk01 : k = 0 ∨ k = 1 := by omega
            have hki : (k : Int) < 2 := by omega
            clear hk2
            go_wp2_with (fail)
            go_loopw [10] (fun v10 wr3 => ∃ f : Nat, f ≤ 3 ∧ v10 = .int .i64 f ∧ Hid (PL w wr3 g3 g4 i b0 b1 r0 r1 a0 a1 F)) (fun v10 _ => 3 - (intOf v10).toNat)
            case atStart => exact ⟨0, by decide, rfl, H⟩
            case round =>
              clear H
              obtain ⟨f, hf, rfl, H⟩ := hrel
              by_cases hf3 : f = 3
              · subst hf3
                go_wp2
                go_roundw
                case rel => first | exact ⟨k + 1, by omega, by go_num, H⟩ | ((repeat apply Exists.intro); exact ⟨⟨k + 1, by omega, by go_num, H⟩, rfl⟩)
                case measure => simp [intOf]; omega
              · have hf012 : f = 0 ∨ f = 1 ∨ f = 2 := by omega
                clear hf3 hki
                rcases hk01 with rfl | rfl <;> rcases hf012 with rfl | rfl | rfl
                · as_aux_lemma =>
                  obtain ⟨X, hX⟩ : ∃ X, X = a0.safe.get 0 := ⟨_, rfl⟩
                  obtain ⟨n, hn⟩ : ∃ n, X.length = n := ⟨_, rfl⟩
                  have hby := (H.out.d0.mem.elim fun rs m => m.f.get 0)
                  rw [← hX] at hby
                  have HBy := Lib.hid hby
                  have HNl := Lib.hid hn
                  have HDu := Lib.hid (H.out.disks.durable H.out.f0 0 (x := X) (z := 0) (by rw [hX]; rfl))
                  have cd : wr.cell? ⟨g3, 0, none⟩ = some (.pointer (some ⟨b0, 0, none⟩)) := (blk_cell H.out.bd 0).trans rfl
                  clear hX hby hn
                  go_wp2_with fail
                  refine HDu.out.mono ?_
                  rintro e w1 hp
                  obtain ⟨A1, c1, rfl, hc, hb⟩ := hp.lenC HNl.out
                  clear hp
                  have H1 := Lib.hid (H.out.below hb)
                  have HC1 := Lib.hid hc
                  have hrd := (HBy.out.below hb).reads
                  rw [HNl.out] at hrd
                  have HRd := Lib.hid hrd
                  clear hc hb
                  have cl : w1.cell? ⟨g4, 0, none⟩ = some (.slice (r0.f.get 0).1 n (r0.f.get 0).2.2) := by rw [← HRd.out.1]; exact (blk_cell H1.out.bl 0).trans rfl
                  clear hrd
                  go_wp2_with fail
                  refine (same_eq A1 c1 X n HNl.out _ _ w1 HC1.out HRd.out.2.2).mono ?_
                  rintro e w2 ⟨rfl, hd⟩
                  have H2 := Lib.hid (H1.out.below hd.below)
                  clear hd cd cl
                  go_wp2
                  go_roundw
                  case rel => first | exact ⟨1, by decide, by first | rfl | go_num, H2⟩ | ((repeat apply Exists.intro); exact ⟨⟨1, by decide, by first | rfl | go_num, H2⟩, rfl⟩)
                  case measure => simp [intOf]
                · as_aux_lemma =>
                  obtain ⟨X, hX⟩ : ∃ X, X = a0.safe.get 1 := ⟨_, rfl⟩
                  obtain ⟨n, hn⟩ : ∃ n, X.length = n := ⟨_, rfl⟩
                  have hby := (H.out.d0.mem.elim fun rs m => m.f.get 1)
                  rw [← hX] at hby
                  have HBy := Lib.hid hby
                  have HNl := Lib.hid hn
                  have HDu := Lib.hid (H.out.disks.durable H.out.f0 1 (x := X) (z := 0) (by rw [hX]; rfl))
                  have cd : wr.cell? ⟨g3, 0, none⟩ = some (.pointer (some ⟨b0, 0, none⟩)) := (blk_cell H.out.bd 0).trans rfl
                  clear hX hby hn
                  go_wp2_with fail
                  refine HDu.out.mono ?_
                  rintro e w1 hp
                  obtain ⟨A1, c1, rfl, hc, hb⟩ := hp.lenC HNl.out
                  clear hp
                  have H1 := Lib.hid (H.out.below hb)
                  have HC1 := Lib.hid hc
                  have hrd := (HBy.out.below hb).reads
                  rw [HNl.out] at hrd
                  have HRd := Lib.hid hrd
                  clear hc hb
                  have cl : w1.cell? ⟨g4, 1, none⟩ = some (.slice (r0.f.get 1).1 n (r0.f.get 1).2.2) := by rw [← HRd.out.1]; exact (blk_cell H1.out.bl 1).trans rfl
                  clear hrd
                  go_wp2_with fail
                  refine (same_eq A1 c1 X n HNl.out _ _ w1 HC1.out HRd.out.2.2).mono ?_
                  rintro e w2 ⟨rfl, hd⟩
                  have H2 := Lib.hid (H1.out.below hd.below)
                  clear hd cd cl
                  go_wp2
                  go_roundw
                  case rel => first | exact ⟨2, by decide, by first | rfl | go_num, H2⟩ | ((repeat apply Exists.intro); exact ⟨⟨2, by decide, by first | rfl | go_num, H2⟩, rfl⟩)
                  case measure => simp [intOf]
                · as_aux_lemma =>
                  obtain ⟨X, hX⟩ : ∃ X, X = a0.safe.get 2 := ⟨_, rfl⟩
                  obtain ⟨n, hn⟩ : ∃ n, X.length = n := ⟨_, rfl⟩
                  have hby := (H.out.d0.mem.elim fun rs m => m.f.get 2)
                  rw [← hX] at hby
                  have HBy := Lib.hid hby
                  have HNl := Lib.hid hn
                  have HDu := Lib.hid (H.out.disks.durable H.out.f0 2 (x := X) (z := 0) (by rw [hX]; rfl))
                  have cd : wr.cell? ⟨g3, 0, none⟩ = some (.pointer (some ⟨b0, 0, none⟩)) := (blk_cell H.out.bd 0).trans rfl
                  clear hX hby hn
                  go_wp2_with fail
                  refine HDu.out.mono ?_
                  rintro e w1 hp
                  obtain ⟨A1, c1, rfl, hc, hb⟩ := hp.lenC HNl.out
                  clear hp
                  have H1 := Lib.hid (H.out.below hb)
                  have HC1 := Lib.hid hc
                  have hrd := (HBy.out.below hb).reads
                  rw [HNl.out] at hrd
                  have HRd := Lib.hid hrd
                  clear hc hb
                  have cl : w1.cell? ⟨g4, 2, none⟩ = some (.slice (r0.f.get 2).1 n (r0.f.get 2).2.2) := by rw [← HRd.out.1]; exact (blk_cell H1.out.bl 2).trans rfl
                  clear hrd
                  go_wp2_with fail
                  refine (same_eq A1 c1 X n HNl.out _ _ w1 HC1.out HRd.out.2.2).mono ?_
                  rintro e w2 ⟨rfl, hd⟩
                  have H2 := Lib.hid (H1.out.below hd.below)
                  clear hd cd cl
                  go_wp2
                  go_roundw
                  case rel => first | exact ⟨3, by decide, by first | rfl | go_num, H2⟩ | ((repeat apply Exists.intro); exact ⟨⟨3, by decide, by first | rfl | go_num, H2⟩, rfl⟩)
                  case measure => simp [intOf]
                · as_aux_lemma =>
                  obtain ⟨X, hX⟩ : ∃ X, X = a1.safe.get 0 := ⟨_, rfl⟩
                  obtain ⟨n, hn⟩ : ∃ n, X.length = n := ⟨_, rfl⟩
                  have hby := (H.out.d1.mem.elim fun rs m => m.f.get 0)
                  rw [← hX] at hby
                  have HBy := Lib.hid hby
                  have HNl := Lib.hid hn
                  have HDu := Lib.hid (H.out.disks.durable H.out.f1 0 (x := X) (z := 0) (by rw [hX]; rfl))
                  have cd : wr.cell? ⟨g3, 1, none⟩ = some (.pointer (some ⟨b1, 0, none⟩)) := (blk_cell H.out.bd 1).trans rfl
                  clear hX hby hn
                  go_wp2_with fail
                  refine HDu.out.mono ?_
                  rintro e w1 hp
                  obtain ⟨A1, c1, rfl, hc, hb⟩ := hp.lenC HNl.out
                  clear hp
                  have H1 := Lib.hid (H.out.below hb)
                  have HC1 := Lib.hid hc
                  have hrd := (HBy.out.below hb).reads
                  rw [HNl.out] at hrd
                  have HRd := Lib.hid hrd
                  clear hc hb
                  have cl : w1.cell? ⟨g4, 8, none⟩ = some (.slice (r1.f.get 0).1 n (r1.f.get 0).2.2) := by rw [← HRd.out.1]; exact (blk_cell H1.out.bl 8).trans rfl
                  clear hrd
                  go_wp2_with fail
                  refine (same_eq A1 c1 X n HNl.out _ _ w1 HC1.out HRd.out.2.2).mono ?_
                  rintro e w2 ⟨rfl, hd⟩
                  have H2 := Lib.hid (H1.out.below hd.below)
                  clear hd cd cl
                  go_wp2
                  go_roundw
                  case rel => first | exact ⟨1, by decide, by first | rfl | go_num, H2⟩ | ((repeat apply Exists.intro); exact ⟨⟨1, by decide, by first | rfl | go_num, H2⟩, rfl⟩)
                  case measure => simp [intOf]
                · as_aux_lemma =>
                  obtain ⟨X, hX⟩ : ∃ X, X = a1.safe.get 1 := ⟨_, rfl⟩
                  obtain ⟨n, hn⟩ : ∃ n, X.length = n := ⟨_, rfl⟩
                  have hby := (H.out.d1.mem.elim fun rs m => m.f.get 1)
                  rw [← hX] at hby
                  have HBy := Lib.hid hby
                  have HNl := Lib.hid hn
                  have HDu := Lib.hid (H.out.disks.durable H.out.f1 1 (x := X) (z := 0) (by rw [hX]; rfl))
                  have cd : wr.cell? ⟨g3, 1, none⟩ = some (.pointer (some ⟨b1, 0, none⟩)) := (blk_cell H.out.bd 1).trans rfl
                  clear hX hby hn
                  go_wp2_with fail
                  refine HDu.out.mono ?_
                  rintro e w1 hp
                  obtain ⟨A1, c1, rfl, hc, hb⟩ := hp.lenC HNl.out
                  clear hp
                  have H1 := Lib.hid (H.out.below hb)
                  have HC1 := Lib.hid hc
                  have hrd := (HBy.out.below hb).reads
                  rw [HNl.out] at hrd
                  have HRd := Lib.hid hrd
                  clear hc hb
                  have cl : w1.cell? ⟨g4, 9, none⟩ = some (.slice (r1.f.get 1).1 n (r1.f.get 1).2.2) := by rw [← HRd.out.1]; exact (blk_cell H1.out.bl 9).trans rfl
                  clear hrd
                  go_wp2_with fail
                  refine (same_eq A1 c1 X n HNl.out _ _ w1 HC1.out HRd.out.2.2).mono ?_
                  rintro e w2 ⟨rfl, hd⟩
                  have H2 := Lib.hid (H1.out.below hd.below)
                  clear hd cd cl
                  go_wp2
                  go_roundw
                  case rel => first | exact ⟨2, by decide, by first | rfl | go_num, H2⟩ | ((repeat apply Exists.intro); exact ⟨⟨2, by decide, by first | rfl | go_num, H2⟩, rfl⟩)
                  case measure => simp [intOf]
                · as_aux_lemma =>
                  obtain ⟨X, hX⟩ : ∃ X, X = a1.safe.get 2 := ⟨_, rfl⟩
                  obtain ⟨n, hn⟩ : ∃ n, X.length = n := ⟨_, rfl⟩
                  have hby := (H.out.d1.mem.elim fun rs m => m.f.get 2)
                  rw [← hX] at hby
                  have HBy := Lib.hid hby
                  have HNl := Lib.hid hn
                  have HDu := Lib.hid (H.out.disks.durable H.out.f1 2 (x := X) (z := 0) (by rw [hX]; rfl))
                  have cd : wr.cell? ⟨g3, 1, none⟩ = some (.pointer (some ⟨b1, 0, none⟩)) := (blk_cell H.out.bd 1).trans rfl
                  clear hX hby hn
                  go_wp2_with fail
                  refine HDu.out.mono ?_
                  rintro e w1 hp
                  obtain ⟨A1, c1, rfl, hc, hb⟩ := hp.lenC HNl.out
                  clear hp
                  have H1 := Lib.hid (H.out.below hb)
                  have HC1 := Lib.hid hc
                  have hrd := (HBy.out.below hb).reads
                  rw [HNl.out] at hrd
                  have HRd := Lib.hid hrd
                  clear hc hb
                  have cl : w1.cell? ⟨g4, 10, none⟩ = some (.slice (r1.f.get 2).1 n (r1.f.get 2).2.2) := by rw [← HRd.out.1]; exact (blk_cell H1.out.bl 10).trans rfl
                  clear hrd
                  go_wp2_with fail
                  refine (same_eq A1 c1 X n HNl.out _ _ w1 HC1.out HRd.out.2.2).mono ?_
                  rintro e w2 ⟨rfl, hd⟩
                  have H2 := Lib.hid (H1.out.below hd.below)
                  clear hd cd cl
                  go_wp2
                  go_roundw
                  case rel => first | exact ⟨3, by decide, by first | rfl | go_num, H2⟩ | ((repeat apply Exists.intro); exact ⟨⟨3, by decide, by first | rfl | go_num, H2⟩, rfl⟩)
                  case measure => simp [intOf]
end Go.Proofs.Ytfggcdpipolahaa.PF
