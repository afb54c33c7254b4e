/- A disk in memory: its box, its files (rows of bytes that are never written in place), its row of operations. -/
import Derived.Test.YtfggcdpipolahaaFiApp
set_option linter.unusedVariables false
set_option linter.unusedSimpArgs false
namespace Go.Proofs.Ytfggcdpipolahaa.PF
open Go.RowKit Go.Proofs.YtfggcdpipolahaaW.PrintWords Go.Proofs.YtfggcdpipolahaaW.PrintLast Go.Proofs.YtfggcdpipolahaaW.PrintMore
/-- All but the blocks of X is as it was. -/
structure Fr (w w' : World) (X : Nat → Prop) : Prop where
  os : w'.os = w.os
  tape : w'.tape = w.tape
  output : w'.output = w.output
  size : w.heap.size ≤ w'.heap.size
  block : ∀ k, k < w.heap.size → ¬ X k → w'.heap[k]? = w.heap[k]?
section
variable {w w1 w2 : World} {X Y : Nat → Prop}
theorem Fr.refl (w : World) (X : Nat → Prop) : Fr w w X := ⟨rfl, rfl, rfl, Nat.le_refl _, fun _ _ _ => rfl⟩
theorem Fr.of_below (h : Below w.heap.size w w1) (X : Nat → Prop) : Fr w w1 X := ⟨h.os, h.tape, h.output, h.size, fun k hk _ => h.block k hk⟩
theorem Fr.of_grown {row : Option Nat} (h : w.grownBy w1 row) : Fr w w1 (fun k => some k = row) := ⟨h.os, h.tape, h.output, h.size, fun k hk hx => h.block k hk hx⟩
theorem Fr.mono (h : Fr w w1 X) (hx : ∀ k, X k → Y k) : Fr w w1 Y := ⟨h.os, h.tape, h.output, h.size, fun k hk hy => h.block k hk (fun h => hy (hx k h))⟩
theorem Fr.then_ (h : Fr w w1 X) (k : Fr w1 w2 Y) (hY : ∀ k, Y k → X k ∨ w.heap.size ≤ k) : Fr w w2 X :=
  ⟨k.os.trans h.os, k.tape.trans h.tape, k.output.trans h.output, Nat.le_trans h.size k.size, fun i hi hx => (k.block i (Nat.lt_of_lt_of_le hi h.size) (fun hy => (hY i hy).elim hx (fun h => by omega))).trans (h.block i hi hx)⟩
theorem Fr.below (h : Fr w w1 X) {B : Nat} (hB : B ≤ w.heap.size) (hX : ∀ k, X k → B ≤ k) : Below B w w1 := ⟨h.os, h.tape, h.output, h.size, fun k hk => h.block k (by omega) (fun hx => by have := hX k hx; omega)⟩
theorem Fr.drew (h : Fr w w1 X) : Fr w w1.drew X := ⟨h.os, h.tape, h.output, h.size, h.block⟩
theorem Fr.new (h : Fr w w1 X) (k : Below w1.heap.size w1 w2) : Fr w w2 X := h.then_ (Fr.of_below k (fun _ => False)) (fun _ h => h.elim)
end
/-- A row of bytes. -/
abbrev By (ok : Nat → Prop) (w : World) (s : Sl) (x : List Int) : Prop := Kd.R ku8 5 w 0 ok (.slice s.1 s.2.1 s.2.2) x
section
variable {w w1 : World} {ok ok' : Nat → Prop} {s : Sl} {x : List Int}
theorem By.reads (h : By ok w s x) : s.2.1 = x.length ∧ x.length ≤ s.2.2 ∧ Kd.C ku8 w s.1 x.length x := by
  have := Kd.R_reads' h
  exact ⟨this.1, by rw [← this.1]; exact this.2.1, this.2.2⟩
theorem By.mono (h : By ok w s x) (hk : ∀ k, ok k → ok' k) : By ok' w s x := Kd.R_mono h hk
theorem By.below (h : By ok w s x) (hb : Below w.heap.size w w1) : By ok w1 s x := Kd.R_below h hb
theorem By.step (h : By ok w s x) (hm : ∀ k, ok k → k < w.heap.size → w1.heap[k]? = w.heap[k]?) : By ok w1 s x := Kd.R_step h hm
theorem By.fr {X : Nat → Prop} (h : By ok w s x) (hf : Fr w w1 X) (hx : ∀ k, ok k → ¬ X k) : By ok w1 s x := Kd.R_step h (fun k hk hl => hf.block k hl (hx k hk))
theorem By.bound (h : By ok w s x) : By (fun k => ok k ∧ k < w.heap.size) w s x := Kd.R_mono (Kd.R_bound h) (fun _ hk => ⟨hk.1, hk.2.2.1⟩)
/-- A block of another type is written. -/
theorem By.box (h : By ok w s x) {g t : Nat} {cells : Array Value} (hb : w.heap[g]? = some (.cells cells t (0, 0))) (ht : 5 ≠ t) (hg : w.grownBy w1 (some g)) : By ok w1 s x :=
  Kd.R_mono (Kd.R_step (Kd.R_types h hb (by intro q hq; simp [Kd.int, Kd.scalar] at hq; rw [hq]; exact ht)) (fun k hk hl => hg.block k hl (by rintro ⟨rfl⟩; exact hk.2 rfl))) (fun _ hk => hk.1)
theorem By.over {α : Type} {d' : Kd α} {e' : Nat} {ok1 : Nat → Prop} {v : Value} {ys : List α} (h : By ok w s x) (hv : d'.R e' w 0 ok1 v ys) (ht : 5 ≠ e') (hg : w.grownBy w1 v.ownBlock) : By ok w1 s x :=
  Kd.R_over h hv (by intro q hq; simp [Kd.int, Kd.scalar] at hq; rw [hq]; exact ht) hg
theorem By.take (h : By ok w s x) {n : Nat} (hn : n ≤ x.length) : By ok w (s.1, n, s.2.2) (x.take n) := by
  have e : (x.take n).length = n := by rw [List.length_take]; omega
  exact Kd.R_take h hn
theorem By.nil (ok : Nat → Prop) (w : World) : By ok w (none, 0, 0) [] := Kd.R_nil _ _ _ _ _
end
structure S3 where
  a : Sl
  b : Sl
  c : Sl
structure Fs where
  a : List Int
  b : List Int
  c : List Int
def S3.agg (s : S3) : Value := .agg #[.slice s.a.1 s.a.2.1 s.a.2.2, .slice s.b.1 s.b.2.1 s.b.2.2, .slice s.c.1 s.c.2.1 s.c.2.2]
def S3.get (s : S3) (f : Nat) : Sl := if f = 0 then s.a else if f = 1 then s.b else s.c
def Fs.get (s : Fs) (f : Nat) : List Int := if f = 0 then s.a else if f = 1 then s.b else s.c
def S3.set (s : S3) (f : Nat) (x : Sl) : S3 := if f = 0 then { s with a := x } else if f = 1 then { s with b := x } else { s with c := x }
def Fs.set (s : Fs) (f : Nat) (x : List Int) : Fs := if f = 0 then { s with a := x } else if f = 1 then { s with b := x } else { s with c := x }
structure By3 (ok : Nat → Prop) (w : World) (s : S3) (x : Fs) : Prop where
  a : By ok w s.a x.a
  b : By ok w s.b x.b
  c : By ok w s.c x.c
theorem By3.get {ok : Nat → Prop} {w : World} {s : S3} {x : Fs} (h : By3 ok w s x) (f : Nat) : By ok w (s.get f) (x.get f) := by
  unfold S3.get Fs.get
  split
  · exact h.a
  · split
    · exact h.b
    · exact h.c
theorem By3.set {ok : Nat → Prop} {w : World} {s : S3} {x : Fs} (h : By3 ok w s x) (f : Nat) {t : Sl} {y : List Int} (ht : By ok w t y) : By3 ok w (s.set f t) (x.set f y) := by
  unfold S3.set Fs.set
  split
  · exact ⟨ht, h.b, h.c⟩
  · split
    · exact ⟨h.a, ht, h.c⟩
    · exact ⟨h.a, h.b, ht⟩
theorem By3.map {ok ok' : Nat → Prop} {w w' : World} {s : S3} {x : Fs} (h : By3 ok w s x) (f : ∀ t y, By ok w t y → By ok' w' t y) : By3 ok' w' s x := ⟨f _ _ h.a, f _ _ h.b, f _ _ h.c⟩
structure AOp where
  f : Nat
  cut : Bool
  n : Nat
  data : List Int
def Fs.done (x : Fs) (o : AOp) (torn : Nat) : Fs := if o.cut = true then x.set o.f ((x.get o.f).take o.n) else x.set o.f (x.get o.f ++ o.data.take torn)
/-- May an operation be done on these files? -/
structure AOp.Ok (x : Fs) (o : AOp) : Prop where
  f : o.f < 3
  n : o.cut = true → o.n ≤ (x.get o.f).length
  data : o.data.length ≤ 1048576
  len : (x.get o.f).length ≤ 1048576
abbrev Rop := Int × Bool × Int × Sl
abbrev kOp : Kd Rop := Kd.pair (Kd.int .i64) (Kd.pair Kd.bool (Kd.pair (Kd.int .i64) (Kd.scalar (fun x : Sl => .slice x.1 x.2.1 x.2.2) (fun _ => rfl))))
def Rop.cells (r : Rop) : List Value := [.int .i64 r.1, .bool r.2.1, .int .i64 r.2.2.1, .slice r.2.2.2.1 r.2.2.2.2.1 r.2.2.2.2.2]
structure RelO (ok : Nat → Prop) (w : World) (r : Rop) (o : AOp) : Prop where
  f : r.1 = o.f
  cut : r.2.1 = o.cut
  n : r.2.2.1 = o.n
  data : By ok w r.2.2.2 o.data
def Rel (ok : Nat → Prop) (w : World) : List Rop → List AOp → Prop
  | [], [] => True
  | r :: rs, o :: os => RelO ok w r o ∧ Rel ok w rs os
  | _, _ => False
theorem Rel.len {ok : Nat → Prop} {w : World} : ∀ {rs : List Rop} {os : List AOp}, Rel ok w rs os → rs.length = os.length
  | [], [], _ => rfl
  | [], _ :: _, h => h.elim
  | _ :: _, [], h => h.elim
  | _ :: _, _ :: _, h => by rw [List.length_cons, List.length_cons, Rel.len h.2]
theorem Rel.map {ok ok' : Nat → Prop} {w w' : World} (f : ∀ t y, By ok w t y → By ok' w' t y) : ∀ {rs : List Rop} {os : List AOp}, Rel ok w rs os → Rel ok' w' rs os
  | [], [], _ => trivial
  | [], _ :: _, h => h.elim
  | _ :: _, [], h => h.elim
  | _ :: _, _ :: _, h => ⟨⟨h.1.f, h.1.cut, h.1.n, f _ _ h.1.data⟩, Rel.map f h.2⟩
theorem Rel.snoc {ok : Nat → Prop} {w : World} {r : Rop} {o : AOp} (hr : RelO ok w r o) : ∀ {rs : List Rop} {os : List AOp}, Rel ok w rs os → Rel ok w (rs ++ [r]) (os ++ [o])
  | [], [], _ => ⟨hr, trivial⟩
  | [], _ :: _, h => h.elim
  | _ :: _, [], h => h.elim
  | _ :: _, _ :: _, h => ⟨h.1, Rel.snoc hr h.2⟩
theorem Rel.at {ok : Nat → Prop} {w : World} : ∀ {rs : List Rop} {os : List AOp} (h : Rel ok w rs os) {i : Nat} {o : AOp}, os[i]? = some o → ∃ r, rs[i]? = some r ∧ RelO ok w r o
  | [], [], _, i, o, e => by simp at e
  | [], _ :: _, h, _, _, _ => h.elim
  | _ :: _, [], h, _, _, _ => h.elim
  | r :: rs, o :: os, h, 0, p, e => by simp at e; subst e; exact ⟨r, rfl, h.1⟩
  | r :: rs, o :: os, h, i + 1, p, e => by
    obtain ⟨q, hq, hr⟩ := Rel.at h.2 (i := i) (o := p) (by simpa using e)
    exact ⟨q, by simpa using hq, hr⟩
/-- A disk, as the document has it; arm and fail as the program keeps them. -/
structure ADk where
  now : Fs
  safe : Fs
  ops : List AOp
  down : Bool
  arm : Int
  fail : Int
  wth : Int
abbrev Dk.now (d : Dk) : S3 := ⟨d.n0, d.n1, d.n2⟩
abbrev Dk.safe (d : Dk) : S3 := ⟨d.s0, d.s1, d.s2⟩
abbrev Dk.opsB (d : Dk) : Option Nat := (Value.slice d.ops.1 d.ops.2.1 d.ops.2.2).ownBlock
structure Mem (w : World) (b : Nat) (ok : Nat → Prop) (d : Dk) (rs : List Rop) (a : ADk) : Prop where
  box : DB w b d
  now : By3 ok w d.now a.now
  safe : By3 ok w d.safe a.safe
  ops : Kd.R kOp 77 w 0 (fun k => some k = d.opsB) (.slice d.ops.1 d.ops.2.1 d.ops.2.2) rs
  rel : Rel ok w rs a.ops
  down : d.down = a.down
  arm : d.arm = a.arm
  fail : d.fail = a.fail
  wth : d.wth = a.wth
theorem ops_tight {w : World} {v : Value} {ok : Nat → Prop} {rs : List Rop} (h : Kd.R kOp 77 w 0 ok v rs) : Kd.R kOp 77 w 0 (fun k => some k = v.ownBlock) v rs := Kd.R_tight rfl h
section
variable {w w1 : World} {b : Nat} {ok ok' : Nat → Prop} {d d' : Dk} {rs rs' : List Rop} {a a' : ADk}
theorem Mem.mono (h : Mem w b ok d rs a) (hk : ∀ k, ok k → ok' k) : Mem w b ok' d rs a :=
  ⟨h.box, h.now.map (fun _ _ g => g.mono hk), h.safe.map (fun _ _ g => g.mono hk), h.ops, h.rel.map (fun _ _ g => g.mono hk), h.down, h.arm, h.fail, h.wth⟩
theorem Mem.bound (h : Mem w b ok d rs a) : Mem w b (fun k => ok k ∧ k < w.heap.size) d rs a :=
  ⟨h.box, h.now.map (fun _ _ g => g.bound), h.safe.map (fun _ _ g => g.bound), h.ops, h.rel.map (fun _ _ g => g.bound), h.down, h.arm, h.fail, h.wth⟩
theorem Mem.step (h : Mem w b ok d rs a) (hm : ∀ k, k = b ∨ some k = d.opsB ∨ ok k → k < w.heap.size → w1.heap[k]? = w.heap[k]?) : Mem w1 b ok d rs a :=
  ⟨(hm b (.inl rfl) (blk_lt h.box)).trans h.box, h.now.map (fun _ _ g => g.step (fun k hk => hm k (.inr (.inr hk)))), h.safe.map (fun _ _ g => g.step (fun k hk => hm k (.inr (.inr hk)))), Kd.R_step h.ops (fun k hk => hm k (.inr (.inl hk))), h.rel.map (fun _ _ g => g.step (fun k hk => hm k (.inr (.inr hk)))), h.down, h.arm, h.fail, h.wth⟩
theorem Mem.below (h : Mem w b ok d rs a) (hb : Below w.heap.size w w1) : Mem w1 b ok d rs a := h.step (fun k _ hl => hb.block k hl)
/-- The box alone is written. -/
theorem DB.remem {d0 : Dk} (h : DB w b d0) (hg : w.grownBy w1 (some b)) (hb : DB w1 b d') (hn : By3 ok w d'.now a'.now) (hs : By3 ok w d'.safe a'.safe) (ho : Kd.R kOp 77 w 0 (fun k => some k = d'.opsB) (.slice d'.ops.1 d'.ops.2.1 d'.ops.2.2) rs') (hr : Rel ok w rs' a'.ops) (h1 : d'.down = a'.down) (h2 : d'.arm = a'.arm) (h3 : d'.fail = a'.fail) (h4 : d'.wth = a'.wth) : Mem w1 b ok d' rs' a' :=
  ⟨hb, hn.map (fun _ _ g => g.box h (by decide) hg), hs.map (fun _ _ g => g.box h (by decide) hg),
   Kd.R_mono (Kd.R_step (Kd.R_types ho h (by intro q hq; simp [Kd.pair, Kd.int, Kd.bool, Kd.scalar] at hq; rw [hq]; decide)) (fun k hk hl => hg.block k hl (by rintro ⟨rfl⟩; exact hk.2 rfl))) (fun _ hk => hk.1),
   hr.map (fun _ _ g => g.box h (by decide) hg), h1, h2, h3, h4⟩
theorem Mem.rebox (h : Mem w b ok d rs a) (hg : w.grownBy w1 (some b)) (hb : DB w1 b d') (hn : By3 ok w d'.now a'.now) (hs : By3 ok w d'.safe a'.safe) (ho : Kd.R kOp 77 w 0 (fun k => some k = d'.opsB) (.slice d'.ops.1 d'.ops.2.1 d'.ops.2.2) rs') (hr : Rel ok w rs' a'.ops) (h1 : d'.down = a'.down) (h2 : d'.arm = a'.arm) (h3 : d'.fail = a'.fail) (h4 : d'.wth = a'.wth) : Mem w1 b ok d' rs' a' := h.box.remem hg hb hn hs ho hr h1 h2 h3 h4
end
end Go.Proofs.Ytfggcdpipolahaa.PF
