/- A law's disks: their calls, with their answers told. -/
import Derived.Test.YtfggcdpipolahaaFiHas
set_option linter.unusedVariables false
set_option linter.unusedSimpArgs false
namespace Go.Proofs.Ytfggcdpipolahaa.PF
open Go.RowKit Go.Proofs.YtfggcdpipolahaaW.PrintWords Go.Proofs.YtfggcdpipolahaaW.PrintLast Go.Proofs.YtfggcdpipolahaaW.PrintMore
/-- Since w0 disks have been made: at b (if F b is one) lies one that holds F b; all their rows of bytes lie where ok says. -/
structure Disks (w0 w : World) (ok : Nat → Prop) (F : Nat → Option ADk) (n : Nat) : Prop where
  bel : Below w0.heap.size w0 w
  own : ∃ (D : Nat → Dk) (RS : Nat → List Rop), (∀ b a, F b = some a → Own w0.heap.size w b ok (D b) (RS b) a n) ∧ (∀ b b' a a', b ≠ b' → F b = some a → F b' = some a' → ∀ k, (D b).opsB = some k → (D b').opsB ≠ some k)
def upd {α : Type} (F : Nat → α) (b : Nat) (a : α) : Nat → α := fun k => if k = b then a else F k
theorem upd_eq {α : Type} (F : Nat → α) (b : Nat) (a : α) : upd F b a b = a := if_pos rfl
theorem upd_ne {α : Type} (F : Nat → α) {b k : Nat} (a : α) (h : k ≠ b) : upd F b a k = F k := if_neg h
/-- Blocks that are no disk's box and no row of operations are kept. -/
def KeptT (w w' : World) : Prop := ∀ (k t : Nat) (cells : Array Value), t ≠ 69 → t ≠ 77 → w.heap[k]? = some (.cells cells t (0, 0)) → w'.heap[k]? = some (.cells cells t (0, 0))
theorem KeptT.of_below {w w' : World} (hb : Below w.heap.size w w') : KeptT w w' := fun _ _ _ _ _ h => blk_below h hb
theorem KeptT.then_ {w w1 w2 : World} (h : KeptT w w1) (k : KeptT w1 w2) : KeptT w w2 := fun _ _ _ h1 h2 h3 => k _ _ _ h1 h2 (h _ _ _ h1 h2 h3)
theorem Mem.keptT {w w1 : World} {b1 : Nat} {ok1 : Nat → Prop} {d1 : Dk} {rs1 : List Rop} {a1 : ADk} (h1 : Mem w b1 ok1 d1 rs1 a1) (hf : Fr w w1 (fun k => k = b1 ∨ some k = d1.opsB)) : KeptT w w1 := by
  intro k t cells ht1 ht2 hc
  refine (hf.block k (blk_lt hc) ?_).trans hc
  rintro (rfl | hk)
  · have e := h1.box
    unfold DB at e
    rw [hc] at e
    injection e with e
    injection e with _ e2 _
    exact ht1 e2
  · exact Kd.R_ne h1.ops hc (fun e => ht2 e.symm) hk
/-- What a call on the disk at b leaves. -/
def ToldM (w0 w : World) (ok : Nat → Prop) (F : Nat → Option ADk) (b : Nat) (a : ADk) (n : Nat) (z : Int) (e : Ending) (w' : World) : Prop := e = .returned (.int .i64 z) ∧ ∃ F', Disks w0 w' (fun k => ok k ∨ w.heap.size ≤ k) F' n ∧ F' b = some a ∧ (∀ k, k ≠ b → F' k = F k) ∧ Kept8 w w' ∧ w.heap.size ≤ w'.heap.size ∧ KeptT w w'
section
variable {w0 w w1 : World} {ok ok' : Nat → Prop} {F : Nat → Option ADk} {b : Nat} {a a' : ADk} {n m : Nat} {z : Int}
theorem Disks.none_ (w : World) (n : Nat) : Disks w w (fun _ => False) (fun _ => none) n := ⟨Below.refl _ _, fun _ => Dk.nil, fun _ => [], fun _ _ h => (by cases h), fun _ _ _ _ _ h => (by cases h)⟩
theorem Disks.below (h : Disks w0 w ok F n) (hb : Below w.heap.size w w1) : Disks w0 w1 ok F n := by
  obtain ⟨hb0, D, RS, ho, hd⟩ := h
  exact ⟨below_then hb0 hb0.size hb, D, RS, fun b a e => (ho b a e).below hb, hd⟩
theorem Disks.mono (h : Disks w0 w ok F n) (hk : ∀ k, ok k → ok' k) : Disks w0 w ok' F n := by
  obtain ⟨hb0, D, RS, ho, hd⟩ := h
  exact ⟨hb0, D, RS, fun b a e => (ho b a e).mono hk, hd⟩
theorem Disks.bound (h : Disks w0 w ok F n) : Disks w0 w (fun k => ok k ∧ k < w.heap.size) F n := by
  obtain ⟨hb0, D, RS, ho, hd⟩ := h
  exact ⟨hb0, D, RS, fun b a e => (ho b a e).bound, hd⟩
theorem Disks.le (h : Disks w0 w ok F n) (hm : n ≤ m) : Disks w0 w ok F m := by
  obtain ⟨hb0, D, RS, ho, hd⟩ := h
  exact ⟨hb0, D, RS, fun b a e => ⟨(ho b a e).mem, (ho b a e).good.mono hm, (ho b a e).box, (ho b a e).ops⟩, hd⟩
theorem Disks.weak {F' : Nat → Option ADk} (h : Disks w0 w ok F n) (hw : ∀ b a, F' b = some a → F b = some a) : Disks w0 w ok F' n := by
  obtain ⟨hb0, D, RS, ho, hd⟩ := h
  exact ⟨hb0, D, RS, fun b a e => ho b a (hw b a e), fun b b' a a' hne e e' => hd b b' a a' hne (hw b a e) (hw b' a' e')⟩
theorem Disks.lt (h : Disks w0 w ok F n) (hF : F b = some a) : b < w.heap.size := by
  obtain ⟨hb0, D, RS, ho, hd⟩ := h
  exact blk_lt (ho b a hF).mem.box
theorem Disks.post (h : Disks w0 w ok F n) (hF : F b = some a) (hm : n ≤ m) {f : Nat} {args : Array Value} {r : ADk × Int} (hr : r = (a', z)) (hcall : ∀ D RS, Own w0.heap.size w b ok D RS a n → Calls Try.prog f args w (PostO w0.heap.size w b ok D m r)) :
    Calls Try.prog f args w (ToldM w0 w ok F b a' m z) := by
  obtain ⟨hb0, D, RS, ho, hd⟩ := h
  refine (hcall (D b) (RS b) (ho b a hF)).mono ?_
  clear hcall
  rintro e w' ⟨d', rs', he, ho', hf, hops⟩
  subst hr
  refine ⟨he, upd F b (some a'), ⟨(ho b a hF).bel (Nat.le_refl _) hb0 hb0.size hf, upd D b d', upd RS b rs', ?_, ?_⟩, upd_eq _ _ _, fun k hk => upd_ne _ _ hk, (ho b a hF).mem.rows hf, hf.size, (ho b a hF).mem.keptT hf⟩
  · intro c ac hc
    by_cases hcb : c = b
    · subst hcb
      rw [upd_eq] at hc ⊢
      rw [upd_eq]
      injection hc with hc
      subst hc
      exact ho'
    · rw [upd_ne _ _ hcb] at hc ⊢
      rw [upd_ne _ _ hcb]
      have h1 := ho c ac hc
      exact ⟨(h1.mem.keep (ho b a hF).mem hf hcb (fun k hk => hd b c a ac (fun e => hcb e.symm) hF hc k hk)).mono (fun _ => .inl), h1.good.mono hm, h1.box, h1.ops⟩
  · intro c c' ac ac' hne hc hc' k hk
    by_cases hcb : c = b
    · subst hcb
      rw [upd_eq] at hk
      rw [upd_ne _ _ (fun e => hne e.symm)] at hc' ⊢
      have hlt := Kd.R_lt (ho c' ac' hc').mem.ops
      rcases hops k hk with h1 | h1
      · exact hd c c' a ac' hne hF hc' k h1
      · intro h2
        have := hlt k h2
        omega
    · rw [upd_ne _ _ hcb] at hc hk
      by_cases hcb' : c' = b
      · subst hcb'
        rw [upd_eq]
        intro h2
        have hlt := Kd.R_lt (ho c ac hc).mem.ops
        rcases hops k h2 with h1 | h1
        · exact hd c c' ac a hne hc hF k hk h1
        · have := hlt k hk
          omega
      · rw [upd_ne _ _ hcb'] at hc' ⊢
        exact hd c c' ac ac' hne hc hc' k hk
theorem Disks.append (h : Disks w0 w ok F n) (hF : F b = some a) (f : Int) (A : Option Addr) (x : List Int) (c : Nat) (hr : a.append f x = (a', z)) (hn : n ≤ 1099511627776) (hx : Kd.C ku8 w A x.length x) (hc : x.length ≤ c) (hxl : x.length ≤ 4398046511104) :
    Calls Try.prog 11 #[.pointer (some ⟨b, 0, none⟩), .int .i64 f, .slice A x.length c] w (ToldM w0 w ok F b a' (n + 1) z) :=
  h.post hF (Nat.le_succ n) hr (fun _ _ ho => ho.append h.bel.size hn f A x c hx hc hxl)
theorem Disks.cut (h : Disks w0 w ok F n) (hF : F b = some a) (f k : Int) (hr : a.cutTo f k = (a', z)) (hn : n ≤ 1099511627776) :
    Calls Try.prog 24 #[.pointer (some ⟨b, 0, none⟩), .int .i64 f, .int .i64 k] w (ToldM w0 w ok F b a' (n + 1) z) :=
  h.post hF (Nat.le_succ n) hr (fun _ _ ho => ho.cut h.bel.size hn f k)
theorem Disks.sync (h : Disks w0 w ok F n) (hF : F b = some a) (hr : a.sync = (a', z)) : Calls Try.prog 13 #[.pointer (some ⟨b, 0, none⟩)] w (ToldM w0 w ok F b a' n z) :=
  h.post hF (Nat.le_refl n) hr (fun _ _ ho => ho.sync h.bel.size)
theorem Disks.arm (h : Disks w0 w ok F n) (hF : F b = some a) (k : Int) (hr : a.armed k = (a', z)) : Calls Try.prog 25 #[.pointer (some ⟨b, 0, none⟩), .int .i64 k] w (ToldM w0 w ok F b a' n z) :=
  h.post hF (Nat.le_refl n) hr (fun _ _ ho => ho.arm h.bel.size k)
theorem Disks.fail (h : Disks w0 w ok F n) (hF : F b = some a) (k x : Int) (hr : a.failing k x = (a', z)) : Calls Try.prog 26 #[.pointer (some ⟨b, 0, none⟩), .int .i64 k, .int .i64 x] w (ToldM w0 w ok F b a' n z) :=
  h.post hF (Nat.le_refl n) hr (fun _ _ ho => ho.fail h.bel.size k x)
theorem Disks.crash (h : Disks w0 w ok F n) (hF : F b = some a) (k t : Int) (hr : a.crash k t = (a', z)) : Calls Try.prog 22 #[.pointer (some ⟨b, 0, none⟩), .int .i64 k, .int .i64 t] w (ToldM w0 w ok F b a' n z) :=
  h.post hF (Nat.le_refl n) hr (fun _ _ ho => ho.crash h.bel.size k t)
theorem Disks.read (h : Disks w0 w ok F n) (hF : F b = some a) (f : Int) {x : List Int} (hr : a.read f = (x, z)) (hn : n ≤ 1099511627776) : Calls Try.prog 12 #[.pointer (some ⟨b, 0, none⟩), .int .i64 f] w (PostR w x z) := by
  obtain ⟨hb0, D, RS, ho, hd⟩ := h
  have := (ho b a hF).read hn f
  rw [hr] at this
  exact this
theorem Disks.durable (h : Disks w0 w ok F n) (hF : F b = some a) (f : Int) {x : List Int} (hr : a.durable f = (x, z)) : Calls Try.prog 14 #[.pointer (some ⟨b, 0, none⟩), .int .i64 f] w (PostR w x z) := by
  obtain ⟨hb0, D, RS, ho, hd⟩ := h
  have := (ho b a hF).durable f
  rw [hr] at this
  exact this
theorem Disks.pending (h : Disks w0 w ok F n) (hF : F b = some a) {m : Nat} (hm : a.ops.length = m) : Calls Try.prog 21 #[.pointer (some ⟨b, 0, none⟩)] w fun e w' => e = .returned (.int .i64 m) ∧ w = w' := by
  obtain ⟨hb0, D, RS, ho, hd⟩ := h
  subst hm
  exact (ho b a hF).pending
/-- One disk more. -/
theorem Disks.more (h : Disks w0 w ok F n) (hb : Below w.heap.size w w1) {d : Dk} {rs : List Rop} (ho : Own w.heap.size w1 b ok d rs a n) : Disks w0 w1 ok (upd F b (some a)) n := by
  obtain ⟨hb0, D, RS, ho0, hd⟩ := h
  have hlt : ∀ c ac, F c = some ac → c < w.heap.size := fun c ac e => blk_lt (ho0 c ac e).mem.box
  refine ⟨below_then hb0 hb0.size hb, upd D b d, upd RS b rs, ?_, ?_⟩
  · intro c ac hc
    by_cases hcb : c = b
    · subst hcb
      rw [upd_eq] at hc ⊢
      rw [upd_eq]
      injection hc with hc
      subst hc
      exact ⟨ho.mem, ho.good, Nat.le_trans hb0.size ho.box, fun k hk => Nat.le_trans hb0.size (ho.ops k hk)⟩
    · rw [upd_ne _ _ hcb] at hc ⊢
      rw [upd_ne _ _ hcb]
      exact (ho0 c ac hc).below hb
  · intro c c' ac ac' hne hc hc' k hk
    by_cases hcb : c = b
    · subst hcb
      rw [upd_eq] at hk
      rw [upd_ne _ _ (fun e => hne e.symm)] at hc' ⊢
      intro h2
      have h3 := Kd.R_lt (ho0 c' ac' hc').mem.ops k h2
      have h4 := ho.ops k hk
      omega
    · rw [upd_ne _ _ hcb] at hc hk
      by_cases hcb' : c' = b
      · subst hcb'
        rw [upd_eq]
        intro h2
        have h3 := Kd.R_lt (ho0 c ac hc).mem.ops k hk
        have h4 := ho.ops k h2
        omega
      · rw [upd_ne _ _ hcb'] at hc' ⊢
        exact hd c c' ac ac' hne hc hc' k hk
theorem Disks.good (h : Disks w0 w ok F n) (hF : F b = some a) : Good n a := by
  obtain ⟨hb0, D, RS, ho, hd⟩ := h
  exact (ho b a hF).good
/-- A law's own box is written over. -/
theorem Disks.setBox (h : Disks w0 w ok F n) {g t : Nat} {cells : Array Value} (hg : w0.heap.size ≤ g) (hb : w.heap[g]? = some (.cells cells t (0, 0))) (h1 : t ≠ 69) (h2 : t ≠ 77) (h3 : t ≠ 5) (cs : Array Value) : Disks w0 (w.setRow g cs) ok F n := by
  obtain ⟨hb0, D, RS, ho, hd⟩ := h
  have hgr : w.grownBy (w.setRow g cs) (some g) := ⟨rfl, rfl, rfl, by simp, fun k _ hne => setRow_other _ _ _ _ (fun e => hne (by rw [e]))⟩
  refine ⟨below_setRow hb0 hg _, D, RS, fun b a e => ?_, hd⟩
  have hm := (ho b a e).mem
  have f : ∀ t y, By ok w t y → By ok (w.setRow g cs) t y := fun t y k => k.box hb (fun e => h3 e.symm) hgr
  refine ⟨⟨(hgr.block b (blk_lt hm.box) (fun hk => ?_)).trans hm.box, hm.now.map f, hm.safe.map f, Kd.R_mono (Kd.R_step (Kd.R_types hm.ops hb (by intro q hq; simp [Kd.pair, Kd.int, Kd.bool, Kd.scalar] at hq; rw [hq]; exact fun e => h2 e.symm)) (fun k hk hl => hgr.block k hl (by rintro ⟨rfl⟩; exact hk.2 rfl))) (fun _ hk => hk.1), hm.rel.map f, hm.down, hm.arm, hm.fail, hm.wth⟩, (ho b a e).good, (ho b a e).box, (ho b a e).ops⟩
  injection hk with hk
  have e2 := hm.box
  unfold DB at e2
  rw [hk, hb] at e2
  injection e2 with e2
  injection e2 with _ e3 _
  exact h1 e3
theorem Disks.new (h : Disks w0 w ok F n) : Calls Try.prog 9 #[] w fun e w' => ∃ b, e = .returned (.pointer (some ⟨b, 0, none⟩)) ∧ ∃ F', Disks w0 w' ok F' n ∧ F' b = some ADk.new ∧ (∀ k a, F k = some a → k ≠ b ∧ F' k = some a) ∧ Below w.heap.size w w' := by
  refine (Own.new w).mono ?_
  rintro e w' ⟨b, he, ho, hb⟩
  have hg : Own w.heap.size w' b ok Dk.nil [] ADk.new n := ⟨ho.mem.mono (fun _ h => h.elim), ho.good.mono (Nat.zero_le n), ho.box, ho.ops⟩
  refine ⟨b, he, upd F b (some ADk.new), h.more hb hg, upd_eq _ _ _, fun k a hk => ?_, hb⟩
  have hne : k ≠ b := by have := h.lt hk; have := ho.box; omega
  exact ⟨hne, by rw [upd_ne _ _ hne]; exact hk⟩
theorem Disks.copy (h : Disks w0 w ok F n) (hF : F b = some a) (hn : n ≤ 1099511627776) : Calls Try.prog 23 #[.pointer (some ⟨b, 0, none⟩)] w fun e w' => ∃ b2, e = .returned (.pointer (some ⟨b2, 0, none⟩)) ∧ ∃ F', Disks w0 w' ok F' n ∧ F' b2 = some a ∧ (∀ k a, F k = some a → k ≠ b2 ∧ F' k = some a) ∧ Below w.heap.size w w' := by
  obtain ⟨D, RS, ho, hd⟩ := h.own
  refine ((ho b a hF).copy hn).mono ?_
  rintro e w' ⟨b2, d2, he, ho2, hb⟩
  refine ⟨b2, he, upd F b2 (some a), h.more hb ho2, upd_eq _ _ _, fun k a hk => ?_, hb⟩
  have hne : k ≠ b2 := by have := h.lt hk; have := ho2.box; omega
  exact ⟨hne, by rw [upd_ne _ _ hne]; exact hk⟩
end
end Go.Proofs.Ytfggcdpipolahaa.PF
