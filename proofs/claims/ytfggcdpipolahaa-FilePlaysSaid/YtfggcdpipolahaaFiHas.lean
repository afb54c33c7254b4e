/- A law's one disk: its calls, with their answers told. -/
import Derived.Test.YtfggcdpipolahaaFiOwn
set_option linter.unusedVariables false
set_option linter.unusedSimpArgs false
namespace Go.Proofs.Ytfggcdpipolahaa.PF
open Go.RowKit Go.Proofs.YtfggcdpipolahaaW.PrintWords Go.Proofs.YtfggcdpipolahaaW.PrintLast Go.Proofs.YtfggcdpipolahaaW.PrintMore
/-- Since w0 a disk has been made, at b; it holds a. -/
structure Has (w0 w : World) (b : Nat) (a : ADk) (n : Nat) : Prop where
  bel : Below w0.heap.size w0 w
  own : ∃ ok d rs, Own w0.heap.size w b ok d rs a n
def Told (w0 w : World) (b : Nat) (a : ADk) (n : Nat) (z : Int) (e : Ending) (w' : World) : Prop := e = .returned (.int .i64 z) ∧ Has w0 w' b a n ∧ Kept8 w w'
section
variable {w0 w w1 : World} {b : Nat} {a a' : ADk} {n : Nat} {z : Int}
theorem Kept8.of_below (hb : Below w.heap.size w w1) : Kept8 w w1 := fun _ _ _ _ h => Kd.R_below h hb
theorem Kept8.then_ {w2 : World} (h : Kept8 w w1) (k : Kept8 w1 w2) : Kept8 w w2 := fun _ _ _ _ r => k _ _ _ _ (h _ _ _ _ r)
theorem Has.below (h : Has w0 w b a n) (hb : Below w.heap.size w w1) : Has w0 w1 b a n := by
  obtain ⟨hb0, ok, d, rs, ho⟩ := h
  exact ⟨below_then hb0 hb0.size hb, ok, d, rs, ho.below hb⟩
theorem PostO.told {ok : Nat → Prop} {d : Dk} {rs : List Rop} {n m : Nat} (hb : Below w0.heap.size w0 w) (ho : Own w0.heap.size w b ok d rs a n) {r : ADk × Int} (hr : r = (a', z)) {e : Ending} {w' : World} (h : PostO w0.heap.size w b ok d m r e w') : Told w0 w b a' m z e w' := by
  subst hr
  obtain ⟨d', rs', he, ho', hf, _⟩ := h
  exact ⟨he, ⟨ho.bel (Nat.le_refl _) hb hb.size hf, _, d', rs', ho'⟩, ho.mem.rows hf⟩
theorem Has.append (h : Has w0 w b a n) (f : Int) (A : Option Addr) (x : List Int) (c : Nat) (hr : a.append f x = (a', z)) (hn : n ≤ 1099511627776) (hx : Kd.C ku8 w A x.length x) (hc : x.length ≤ c) (hxl : x.length ≤ 4398046511104) :
    Calls Try.prog 11 #[.pointer (some ⟨b, 0, none⟩), .int .i64 f, .slice A x.length c] w (Told w0 w b a' (n + 1) z) := by
  obtain ⟨hb0, ok, d, rs, ho⟩ := h
  exact (ho.append hb0.size hn f A x c hx hc hxl).mono (fun _ _ hp => hp.told hb0 ho hr)
theorem Has.cut (h : Has w0 w b a n) (f m : Int) (hr : a.cutTo f m = (a', z)) (hn : n ≤ 1099511627776) :
    Calls Try.prog 24 #[.pointer (some ⟨b, 0, none⟩), .int .i64 f, .int .i64 m] w (Told w0 w b a' (n + 1) z) := by
  obtain ⟨hb0, ok, d, rs, ho⟩ := h
  exact (ho.cut hb0.size hn f m).mono (fun _ _ hp => hp.told hb0 ho hr)
theorem Has.sync (h : Has w0 w b a n) (hr : a.sync = (a', z)) : Calls Try.prog 13 #[.pointer (some ⟨b, 0, none⟩)] w (Told w0 w b a' n z) := by
  obtain ⟨hb0, ok, d, rs, ho⟩ := h
  exact (ho.sync hb0.size).mono (fun _ _ hp => hp.told hb0 ho hr)
theorem Has.arm (h : Has w0 w b a n) (m : Int) (hr : a.armed m = (a', z)) : Calls Try.prog 25 #[.pointer (some ⟨b, 0, none⟩), .int .i64 m] w (Told w0 w b a' n z) := by
  obtain ⟨hb0, ok, d, rs, ho⟩ := h
  exact (ho.arm hb0.size m).mono (fun _ _ hp => hp.told hb0 ho hr)
theorem Has.fail (h : Has w0 w b a n) (m x : Int) (hr : a.failing m x = (a', z)) : Calls Try.prog 26 #[.pointer (some ⟨b, 0, none⟩), .int .i64 m, .int .i64 x] w (Told w0 w b a' n z) := by
  obtain ⟨hb0, ok, d, rs, ho⟩ := h
  exact (ho.fail hb0.size m x).mono (fun _ _ hp => hp.told hb0 ho hr)
theorem Has.crash (h : Has w0 w b a n) (k t : Int) (hr : a.crash k t = (a', z)) : Calls Try.prog 22 #[.pointer (some ⟨b, 0, none⟩), .int .i64 k, .int .i64 t] w (Told w0 w b a' n z) := by
  obtain ⟨hb0, ok, d, rs, ho⟩ := h
  exact (ho.crash hb0.size k t).mono (fun _ _ hp => hp.told hb0 ho hr)
theorem Has.read (h : Has w0 w b a n) (f : Int) {x : List Int} (hr : a.read f = (x, z)) (hn : n ≤ 1099511627776) : Calls Try.prog 12 #[.pointer (some ⟨b, 0, none⟩), .int .i64 f] w (PostR w x z) := by
  obtain ⟨hb0, ok, d, rs, ho⟩ := h
  have := ho.read hn f
  rw [hr] at this
  exact this
theorem Has.durable (h : Has w0 w b a n) (f : Int) {x : List Int} (hr : a.durable f = (x, z)) : Calls Try.prog 14 #[.pointer (some ⟨b, 0, none⟩), .int .i64 f] w (PostR w x z) := by
  obtain ⟨hb0, ok, d, rs, ho⟩ := h
  have := ho.durable f
  rw [hr] at this
  exact this
theorem Has.pending (h : Has w0 w b a n) {m : Nat} (hm : a.ops.length = m) : Calls Try.prog 21 #[.pointer (some ⟨b, 0, none⟩)] w fun e w' => e = .returned (.int .i64 m) ∧ w = w' := by
  obtain ⟨hb0, ok, d, rs, ho⟩ := h
  subst hm
  exact ho.pending
theorem Has.new (w : World) : Calls Try.prog 9 #[] w fun e w' => ∃ b, e = .returned (.pointer (some ⟨b, 0, none⟩)) ∧ Has w w' b ADk.new 0 := by
  refine (Own.new w).mono ?_
  rintro e w' ⟨b, he, ho, hb⟩
  exact ⟨b, he, hb, _, _, _, ho⟩
theorem Has.back {w2 : World} (h : Has w1 w b a n) (hb : Below w2.heap.size w2 w1) : Has w2 w b a n := by
  obtain ⟨hb0, ok, d, rs, ho⟩ := h
  exact ⟨below_then hb hb.size hb0, ok, d, rs, ho.mem, ho.good, Nat.le_trans hb.size ho.box, fun k hk => Nat.le_trans hb.size (ho.ops k hk)⟩
theorem str_of {w : World} {x : List Int} {A : Option Addr} {c g : Nat} {ok : Nat → Prop} {s : ByteArray} (h : Kd.R ku8 5 w g ok (.slice A x.length c) x) (e : strOfNums x = s) : (convert 24 9 (.slice A x.length c)).run Try.prog w = .ok (.string s) w := by
  rw [← e]
  exact Kd.C_string (P := Try.prog) (c := c) Try.underlying24 Try.underlying5 Try.underlying9 (Kd.R_reads' h).2.2
end
end Go.Proofs.Ytfggcdpipolahaa.PF
