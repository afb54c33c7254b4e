/- What a disk keeps: its numbers, its files' lengths, and that its files are those that are safe behind its operations. Plain. -/
import Derived.Test.YtfggcdpipolahaaFiCopy
set_option linter.unusedVariables false
set_option linter.unusedSimpArgs false
namespace Go.Proofs.Ytfggcdpipolahaa.PF
open Go.RowKit Go.Proofs.YtfggcdpipolahaaW.PrintWords Go.Proofs.YtfggcdpipolahaaW.PrintLast Go.Proofs.YtfggcdpipolahaaW.PrintMore
def AllLe (x : Fs) : Prop := x.a.length ≤ 1048576 ∧ x.b.length ≤ 1048576 ∧ x.c.length ≤ 1048576
theorem AllLe.get {x : Fs} (h : AllLe x) (f : Nat) : (x.get f).length ≤ 1048576 := by
  unfold Fs.get
  split
  · exact h.1
  · split
    · exact h.2.1
    · exact h.2.2
theorem AllLe.set {x : Fs} (h : AllLe x) (f : Nat) {y : List Int} (hy : y.length ≤ 1048576) : AllLe (x.set f y) := by
  unfold Fs.set
  split
  · exact ⟨hy, h.2⟩
  · split
    · exact ⟨h.1, hy, h.2.2⟩
    · exact ⟨h.1, h.2.1, hy⟩
theorem Fs.get_set (x : Fs) (f : Nat) (hf : f < 3) (y : List Int) : (x.set f y).get f = y := by
  match f, hf with
  | 0, _ => rfl
  | 1, _ => rfl
  | 2, _ => rfl
def Fs.play (x : Fs) : List AOp → Fs
  | [] => x
  | o :: os => Fs.play (x.done o o.data.length) os
def Lens (x : Fs) : List AOp → Prop
  | [] => AllLe x
  | o :: os => AllLe x ∧ Lens (x.done o o.data.length) os
theorem Lens.head {x : Fs} : ∀ {os : List AOp}, Lens x os → AllLe x
  | [], h => h
  | _ :: _, h => h.1
theorem play_snoc (o : AOp) : ∀ (os : List AOp) (x : Fs), x.play (os ++ [o]) = (x.play os).done o o.data.length
  | [], _ => rfl
  | p :: os, x => play_snoc o os (x.done p p.data.length)
theorem play_append (ps : List AOp) : ∀ (os : List AOp) (x : Fs), x.play (os ++ ps) = (x.play os).play ps
  | [], _ => rfl
  | p :: os, x => play_append ps os (x.done p p.data.length)
theorem Lens.snoc {o : AOp} : ∀ {os : List AOp} {x : Fs}, Lens x os → AllLe ((x.play os).done o o.data.length) → Lens x (os ++ [o])
  | [], _, h, k => ⟨h, k⟩
  | _ :: _, _, h, k => ⟨h.1, Lens.snoc h.2 k⟩
theorem Lens.last : ∀ {os : List AOp} {x : Fs}, Lens x os → AllLe (x.play os)
  | [], _, h => h
  | _ :: os, _, h => Lens.last (os := os) h.2
theorem Valid.snoc {o : AOp} : ∀ {os : List AOp} {x : Fs}, Valid x os → o.Ok (x.play os) → Valid x (os ++ [o])
  | [], _, _, k => ⟨k, trivial⟩
  | _ :: _, _, h, k => ⟨h.1, Valid.snoc h.2 k⟩
theorem done_le {x : Fs} {o : AOp} (hx : AllLe x) (h : AllLe (x.done o o.data.length)) (hf : o.f < 3) (t : Nat) : AllLe (x.done o t) := by
  unfold Fs.done at h ⊢
  by_cases hc : o.cut = true
  · rw [if_pos hc] at h ⊢
    exact h
  · rw [if_neg hc] at h ⊢
    refine hx.set _ ?_
    have := h.get o.f
    rw [Fs.get_set _ _ hf, List.length_append, List.length_take] at this
    rw [List.length_append, List.length_take]
    omega
theorem crash_le : ∀ {os : List AOp} {x : Fs}, Lens x os → Valid x os → ∀ k t, AllLe (x.crash os k t)
  | [], _, h, _, _, _ => h
  | o :: os, x, h, v, 0, t => by
    unfold Fs.crash
    split
    · exact h.1
    · exact done_le h.1 h.2.head v.1.f t
  | o :: os, x, h, v, k + 1, t => crash_le h.2 v.2 k t
theorem crash_all : ∀ {os : List AOp} {x : Fs} {k t : Nat}, os.length ≤ k → x.crash os k t = x.play os
  | [], _, _, _, _ => rfl
  | o :: os, x, 0, _, h => by simp at h
  | o :: os, x, k + 1, t, h => crash_all (os := os) (by simpa using h)
structure Good (n : Nat) (a : ADk) : Prop where
  nums : a.Nums
  valid : Valid a.safe a.ops
  lens : Lens a.safe a.ops
  now : a.now = a.safe.play a.ops
  ops : a.ops.length ≤ n
section
variable {n m : Nat} {a : ADk}
theorem Good.mono (h : Good n a) (hm : n ≤ m) : Good m a := ⟨h.nums, h.valid, h.lens, h.now, Nat.le_trans h.ops hm⟩
theorem Good.nowLe (h : Good n a) : AllLe a.now := h.now ▸ h.lens.last
theorem Good.safeLe (h : Good n a) : AllLe a.safe := h.lens.head
theorem Good.fit (h : Good n a) (hn : n ≤ 1099511627776) : a.Fit := ⟨h.nums, fun f => h.nowLe.get f, Nat.le_trans h.ops hn⟩
theorem dec_le {x : Int} (h : 0 ≤ x ∧ x ≤ 9223372036854775807) : 0 ≤ dec x ∧ dec x ≤ 9223372036854775807 := by unfold dec; split <;> omega
theorem Nums.stop (h : a.Nums) : a.stop.1.Nums := by
  unfold ADk.stop
  split
  · exact h
  · split
    · exact ⟨dec_le h.arm, dec_le h.fail⟩
    · split <;> exact ⟨dec_le h.arm, dec_le h.fail⟩
theorem Good.stop (h : Good n a) : Good n a.stop.1 := by
  have e := stop_now a
  refine ⟨Nums.stop h.nums, ?_, ?_, ?_, ?_⟩
  · rw [e.2.1, e.2.2]; exact h.valid
  · rw [e.2.1, e.2.2]; exact h.lens
  · rw [e.1, e.2.1, e.2.2]; exact h.now
  · rw [e.2.2]; exact h.ops
theorem Good.does (h : Good n a) {o : AOp} (ho : o.Ok a.now) (hl : AllLe (a.now.done o o.data.length)) : Good (n + 1) (a.does o).1 := by
  have e := stop_now a
  unfold ADk.does
  split
  · refine ⟨⟨(Nums.stop h.nums).arm, (Nums.stop h.nums).fail⟩, ?_, ?_, ?_, ?_⟩
    · show Valid a.stop.1.safe (a.ops ++ [o])
      rw [e.2.1]
      exact h.valid.snoc (h.now ▸ ho)
    · show Lens a.stop.1.safe (a.ops ++ [o])
      rw [e.2.1]
      exact h.lens.snoc (h.now ▸ hl)
    · show a.now.done o o.data.length = a.stop.1.safe.play (a.ops ++ [o])
      rw [e.2.1, play_snoc, ← h.now]
    · show (a.ops ++ [o]).length ≤ n + 1
      rw [List.length_append]
      have := h.ops
      simp only [List.length_cons, List.length_nil]
      omega
  · exact h.stop.mono (Nat.le_succ n)
theorem append_ok (h : Good n a) {f : Int} {x : List Int} (hf : 0 ≤ f ∧ f < 3) (hx : ¬ 1048576 < (a.now.get f.toNat).length + x.length) : AOp.Ok a.now ⟨f.toNat, false, 0, x⟩ ∧ AllLe (a.now.done ⟨f.toNat, false, 0, x⟩ x.length) := by
  refine ⟨⟨by show f.toNat < 3; omega, (by intro e; cases e), (by show x.length ≤ _; omega), h.nowLe.get _⟩, ?_⟩
  refine h.nowLe.set _ ?_
  rw [List.length_append, List.length_take]
  show (a.now.get f.toNat).length + min x.length x.length ≤ _
  omega
theorem Good.append (h : Good n a) (f : Int) (x : List Int) : Good (n + 1) (a.append f x).1 := by
  unfold ADk.append
  split
  · rename_i hf
    split
    · exact h.mono (Nat.le_succ n)
    · rename_i hx
      have := append_ok h hf hx
      exact h.does this.1 this.2
  · exact h.mono (Nat.le_succ n)
theorem Good.cutTo (h : Good n a) (f m : Int) : Good (n + 1) (a.cutTo f m).1 := by
  unfold ADk.cutTo
  split
  · rename_i hf
    split
    · exact h.mono (Nat.le_succ n)
    · rename_i hx
      refine h.does ⟨by show f.toNat < 3; omega, (fun _ => by show m.toNat ≤ (a.now.get f.toNat).length; omega), (by show 0 ≤ _; omega), h.nowLe.get _⟩ ?_
      refine h.nowLe.set _ ?_
      rw [List.length_take]
      have := h.nowLe.get f.toNat
      show min m.toNat (a.now.get f.toNat).length ≤ _
      omega
  · exact h.mono (Nat.le_succ n)
theorem Good.sync (h : Good n a) : Good n a.sync.1 := by
  unfold ADk.sync
  split
  · have e := stop_now a
    refine ⟨⟨(Nums.stop h.nums).arm, (Nums.stop h.nums).fail⟩, trivial, h.nowLe, ?_, Nat.zero_le _⟩
    show a.stop.1.now = a.now
    exact e.1
  · exact h.stop
theorem Good.armed (h : Good n a) (m : Int) : Good n (a.armed m).1 := by
  unfold ADk.armed
  split
  · exact h
  · have := most_le (n := m) (by omega)
    exact ⟨⟨by show 0 ≤ most m + 1 ∧ most m + 1 ≤ _; omega, h.nums.fail⟩, h.valid, h.lens, h.now, h.ops⟩
theorem Good.failing (h : Good n a) (m e : Int) : Good n (a.failing m e).1 := by
  unfold ADk.failing
  split
  · exact h
  · have := most_le (n := m) (by omega)
    exact ⟨⟨h.nums.arm, by show 0 ≤ most m + 1 ∧ most m + 1 ≤ _; omega⟩, h.valid, h.lens, h.now, h.ops⟩
theorem Good.crash (h : Good n a) (k t : Int) : Good n (a.crash k t).1 := by
  unfold ADk.crash
  split
  · exact h
  · exact ⟨⟨by show 0 ≤ (0 : Int) ∧ (0 : Int) ≤ _; omega, by show 0 ≤ (0 : Int) ∧ (0 : Int) ≤ _; omega⟩, trivial, crash_le h.lens h.valid _ _, rfl, Nat.zero_le _⟩
end
def ADk.new : ADk := ⟨⟨[], [], []⟩, ⟨[], [], []⟩, [], false, 0, 0, 0⟩
theorem Good.new : Good 0 ADk.new := ⟨⟨by decide, by decide⟩, trivial, ⟨by decide, by decide, by decide⟩, rfl, Nat.le_refl _⟩
theorem mem_new {w : World} {b : Nat} (h : DB w b Dk.nil) : Mem w b (fun _ => False) Dk.nil [] ADk.new := ⟨h, ⟨By.nil _ _, By.nil _ _, By.nil _ _⟩, ⟨By.nil _ _, By.nil _ _, By.nil _ _⟩, Kd.R_nil _ _ _ _ _, trivial, rfl, rfl, rfl, rfl⟩
theorem newM_calls (w : World) : Calls Try.prog 9 #[] w fun e w' => ∃ b, e = .returned (.pointer (some ⟨b, 0, none⟩)) ∧ Mem w' b (fun _ => False) Dk.nil [] ADk.new ∧ Below w.heap.size w w' ∧ w.heap.size ≤ b := by
  refine (new_calls w).mono ?_
  rintro e w' ⟨b, rfl, rfl, hb, hB⟩
  exact ⟨_, rfl, mem_new hb, hB, Nat.le_refl _⟩
end Go.Proofs.Ytfggcdpipolahaa.PF
