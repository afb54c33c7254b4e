/- A disk that a law owns: its calls. -/
import Derived.Test.YtfggcdpipolahaaFiGood
import Derived.Lib.SlBytesConst
set_option linter.unusedVariables false
set_option linter.unusedSimpArgs false
namespace Go.Proofs.Ytfggcdpipolahaa.PF
open Go.RowKit Go.Proofs.YtfggcdpipolahaaW.PrintWords Go.Proofs.YtfggcdpipolahaaW.PrintLast Go.Proofs.YtfggcdpipolahaaW.PrintMore
/-- A disk whose blocks lie from B on. -/
structure Own (B : Nat) (w : World) (b : Nat) (ok : Nat → Prop) (d : Dk) (rs : List Rop) (a : ADk) (n : Nat) : Prop where
  mem : Mem w b ok d rs a
  good : Good n a
  box : B ≤ b
  ops : ∀ k, d.opsB = some k → B ≤ k
def PostO (B : Nat) (w : World) (b : Nat) (ok : Nat → Prop) (d : Dk) (n : Nat) (r : ADk × Int) (e : Ending) (w' : World) : Prop := ∃ d' rs', e = .returned (.int .i64 r.2) ∧ Own B w' b (fun k => ok k ∨ w.heap.size ≤ k) d' rs' r.1 n ∧ Fr w w' (fun k => k = b ∨ some k = d.opsB) ∧ (∀ k, d'.opsB = some k → d.opsB = some k ∨ w.heap.size ≤ k)
section
variable {B : Nat} {w w1 : World} {b : Nat} {ok : Nat → Prop} {d : Dk} {rs : List Rop} {a : ADk} {n : Nat}
theorem Own.below (h : Own B w b ok d rs a n) (hb : Below w.heap.size w w1) : Own B w1 b ok d rs a n := ⟨h.mem.below hb, h.good, h.box, h.ops⟩
theorem Own.mono {ok' : Nat → Prop} (h : Own B w b ok d rs a n) (hk : ∀ k, ok k → ok' k) : Own B w b ok' d rs a n := ⟨h.mem.mono hk, h.good, h.box, h.ops⟩
theorem Own.bound (h : Own B w b ok d rs a n) : Own B w b (fun k => ok k ∧ k < w.heap.size) d rs a n := ⟨h.mem.bound, h.good, h.box, h.ops⟩
theorem Post.own {m : Nat} {r : ADk × Int} (h : Own B w b ok d rs a n) (hB : B ≤ w.heap.size) (hg : Good m r.1) {e : Ending} {w' : World} (hp : Post w b ok d r e w') : PostO B w b ok d m r e w' := by
  obtain ⟨d', rs', he, hm, hf, ho⟩ := hp
  exact ⟨d', rs', he, ⟨hm, hg, h.box, fun k hk => (ho k hk).elim (h.ops k) (fun hk => Nat.le_trans hB hk)⟩, hf, ho⟩
theorem Own.append (h : Own B w b ok d rs a n) (hB : B ≤ w.heap.size) (hn : n ≤ 1099511627776) (f : Int) (A : Option Addr) (x : List Int) (c : Nat) (hx : Kd.C ku8 w A x.length x) (hc : x.length ≤ c) (hxl : x.length ≤ 4398046511104) :
    Calls Try.prog 11 #[.pointer (some ⟨b, 0, none⟩), .int .i64 f, .slice A x.length c] w (PostO B w b ok d (n + 1) (a.append f x)) :=
  (append_calls h.mem (h.good.fit hn) f A x c hx hc hxl).mono (fun _ _ hp => Post.own h hB (h.good.append f x) hp)
theorem Own.cut (h : Own B w b ok d rs a n) (hB : B ≤ w.heap.size) (hn : n ≤ 1099511627776) (f m : Int) :
    Calls Try.prog 24 #[.pointer (some ⟨b, 0, none⟩), .int .i64 f, .int .i64 m] w (PostO B w b ok d (n + 1) (a.cutTo f m)) :=
  (cut_calls h.mem (h.good.fit hn) f m).mono (fun _ _ hp => Post.own h hB (h.good.cutTo f m) hp)
theorem Own.sync (h : Own B w b ok d rs a n) (hB : B ≤ w.heap.size) :
    Calls Try.prog 13 #[.pointer (some ⟨b, 0, none⟩)] w (PostO B w b ok d n a.sync) :=
  (sync_calls h.mem h.good.nums).mono (fun _ _ hp => Post.own h hB h.good.sync hp)
theorem Own.arm (h : Own B w b ok d rs a n) (hB : B ≤ w.heap.size) (m : Int) :
    Calls Try.prog 25 #[.pointer (some ⟨b, 0, none⟩), .int .i64 m] w (PostO B w b ok d n (a.armed m)) :=
  (arm_calls h.mem m).mono (fun _ _ hp => Post.own h hB (h.good.armed m) hp)
theorem Own.fail (h : Own B w b ok d rs a n) (hB : B ≤ w.heap.size) (m x : Int) :
    Calls Try.prog 26 #[.pointer (some ⟨b, 0, none⟩), .int .i64 m, .int .i64 x] w (PostO B w b ok d n (a.failing m x)) :=
  (fail_calls h.mem m x).mono (fun _ _ hp => Post.own h hB (h.good.failing m x) hp)
theorem Own.crash (h : Own B w b ok d rs a n) (hB : B ≤ w.heap.size) (k t : Int) :
    Calls Try.prog 22 #[.pointer (some ⟨b, 0, none⟩), .int .i64 k, .int .i64 t] w (PostO B w b ok d n (a.crash k t)) :=
  (crash_calls h.mem h.good.valid k t).mono (fun _ _ hp => Post.own h hB (h.good.crash k t) hp)
theorem Own.read (h : Own B w b ok d rs a n) (hn : n ≤ 1099511627776) (f : Int) :
    Calls Try.prog 12 #[.pointer (some ⟨b, 0, none⟩), .int .i64 f] w (PostR w (a.read f).1 (a.read f).2) := read_calls h.mem (h.good.fit hn) f
theorem Own.durable (h : Own B w b ok d rs a n) (f : Int) :
    Calls Try.prog 14 #[.pointer (some ⟨b, 0, none⟩), .int .i64 f] w (PostR w (a.durable f).1 (a.durable f).2) := durable_calls h.mem (fun f => h.good.safeLe.get f) f
theorem Own.pending (h : Own B w b ok d rs a n) :
    Calls Try.prog 21 #[.pointer (some ⟨b, 0, none⟩)] w fun e w' => e = .returned (.int .i64 a.ops.length) ∧ w = w' := pendingM_calls h.mem
theorem Own.new (w : World) : Calls Try.prog 9 #[] w fun e w' => ∃ b, e = .returned (.pointer (some ⟨b, 0, none⟩)) ∧ Own w.heap.size w' b (fun _ => False) Dk.nil [] ADk.new 0 ∧ Below w.heap.size w w' := by
  refine (newM_calls w).mono ?_
  rintro e w' ⟨b, he, hm, hb, hle⟩
  exact ⟨b, he, ⟨hm, Good.new, hle, fun k hk => by simp [Dk.opsB, Dk.nil, Value.ownBlock] at hk⟩, hb⟩
theorem Own.copy (h : Own B w b ok d rs a n) (hn : n ≤ 1099511627776) : Calls Try.prog 23 #[.pointer (some ⟨b, 0, none⟩)] w fun e w' => ∃ b2 d2, e = .returned (.pointer (some ⟨b2, 0, none⟩)) ∧ Own w.heap.size w' b2 ok d2 rs a n ∧ Below w.heap.size w w' := by
  refine (copy_calls h.mem (Nat.le_trans h.good.ops hn)).mono ?_
  rintro e w' ⟨b2, d2, he, hm, hb, hle, ho⟩
  exact ⟨b2, d2, he, ⟨hm, h.good, hle, ho⟩, hb⟩
/-- What is below B stays. -/
theorem Own.bel {B0 : Nat} {w0 : World} (h : Own B w b ok d rs a n) (hB : B0 ≤ B) (h0 : Below B0 w0 w) (hs : B0 ≤ w.heap.size) (hf : Fr w w1 (fun k => k = b ∨ some k = d.opsB)) : Below B0 w0 w1 :=
  h0.trans (hf.below hs (fun k hk => hk.elim (fun e => by rw [e]; exact Nat.le_trans hB h.box) (fun e => Nat.le_trans hB (h.ops k e.symm))))
theorem Mem.ops_ne' (h : Mem w b ok d rs a) {b1 : Nat} {d1 : Dk} (hb : DB w b1 d1) : some b1 ≠ d.opsB := Kd.R_ne h.ops hb (by decide)
/-- Rows of bytes are kept. -/
def Kept8 (w w' : World) : Prop := ∀ (g : Nat) (ok : Nat → Prop) (v : Value) (x : List Int), Kd.R ku8 5 w g ok v x → Kd.R ku8 5 w' g ok v x
theorem Mem.rows {b1 : Nat} {ok1 : Nat → Prop} {d1 : Dk} {rs1 : List Rop} {a1 : ADk} (h1 : Mem w b1 ok1 d1 rs1 a1) (hf : Fr w w1 (fun k => k = b1 ∨ some k = d1.opsB)) : Kept8 w w1 := by
  intro g ok v x hr
  have hty : ∀ k, (∃ cells, w.heap[k]? = some (.cells cells 5 (0, 0))) → ¬ (k = b1 ∨ some k = d1.opsB) := by
    rintro k ⟨cells, hc⟩ (rfl | hk)
    · have e := h1.box
      unfold DB at e
      rw [hc] at e
      injection e with e
      injection e with _ e2 _
      exact absurd e2 (by decide)
    · exact Kd.R_ne h1.ops hc (by decide) hk
  refine Kd.R_mono (Kd.R_step (Kd.R_bound hr) (fun k hk hl => hf.block k hl (hty k ?_))) (fun k hk => hk.1)
  obtain ⟨_, _, _, q, hq, cells, hc⟩ := hk
  simp [Kd.int, Kd.scalar] at hq
  exact ⟨cells, hq ▸ hc⟩
/-- Another disk's call. -/
theorem Mem.keep {b1 : Nat} {ok1 : Nat → Prop} {d1 : Dk} {rs1 : List Rop} {a1 : ADk} (h : Mem w b ok d rs a) (h1 : Mem w b1 ok1 d1 rs1 a1) (hf : Fr w w1 (fun k => k = b1 ∨ some k = d1.opsB)) (hb : b ≠ b1) (ho : ∀ k, d1.opsB = some k → d.opsB ≠ some k) : Mem w1 b ok d rs a := by
  have f : ∀ t y, By ok w t y → By ok w1 t y := fun t y g => h1.rows hf _ _ _ _ g
  refine ⟨(hf.block b (blk_lt h.box) (fun hk => hk.elim hb (fun hk => h1.ops_ne' h.box hk))).trans h.box, h.now.map f, h.safe.map f, Kd.R_step h.ops (fun k hk hl => hf.block k hl (fun hx => hx.elim (fun e => ?_) (fun e => ho k e.symm hk.symm))), h.rel.map f, h.down, h.arm, h.fail, h.wth⟩
  exact h.ops_ne' h1.box (e ▸ hk)
end
end Go.Proofs.Ytfggcdpipolahaa.PF
