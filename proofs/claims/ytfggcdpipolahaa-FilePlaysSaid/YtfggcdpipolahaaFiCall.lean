/- A disk's calls: Append, Cut. -/
import Derived.Test.YtfggcdpipolahaaFiDoes
import Derived.Test.YtfggcdpipolahaaGen
set_option linter.unusedVariables false
set_option linter.unusedSimpArgs false
namespace Go.Proofs.Ytfggcdpipolahaa.PF
open Go.RowKit Go.Proofs.YtfggcdpipolahaaW.PrintWords Go.Proofs.YtfggcdpipolahaaW.PrintLast Go.Proofs.YtfggcdpipolahaaW.PrintMore
attribute [local go_sem] max2_int min2_int max_two min_two
/-- What a call leaves. -/
def Post (w : World) (b : Nat) (ok : Nat → Prop) (d : Dk) (r : ADk × Int) (e : Ending) (w' : World) : Prop := ∃ d' rs', e = .returned (.int .i64 r.2) ∧ Mem w' b (fun k => ok k ∨ w.heap.size ≤ k) d' rs' r.1 ∧ Fr w w' (fun k => k = b ∨ some k = d.opsB) ∧ (∀ k, d'.opsB = some k → d.opsB = some k ∨ w.heap.size ≤ k)
theorem Post.same {w : World} {b : Nat} {ok : Nat → Prop} {d : Dk} {rs : List Rop} {a : ADk} (h : Mem w b ok d rs a) (z : Int) : Post w b ok d (a, z) (.returned (.int .i64 z)) w := ⟨d, rs, rfl, h.mono (fun _ => .inl), Fr.refl _ _, fun _ => .inl⟩
theorem Post.back {w w1 w' : World} {b : Nat} {ok : Nat → Prop} {d : Dk} {r : ADk × Int} {e : Ending} (hb : Below w.heap.size w w1) (h : Post w1 b (fun k => ok k ∨ w.heap.size ≤ k) d r e w') : Post w b ok d r e w' := by
  obtain ⟨d', rs', he, hm, hf, ho⟩ := h
  exact ⟨d', rs', he, hm.mono (fun k hk => hk.elim id (fun h => .inr (Nat.le_trans hb.size h))), (Fr.of_below hb _).then_ hf (fun k hk => .inl hk), fun k hk => (ho k hk).imp id (Nat.le_trans hb.size)⟩
structure ADk.Fit (a : ADk) : Prop where
  nums : a.Nums
  len : ∀ f, (a.now.get f).length ≤ 1048576
  ops : a.ops.length ≤ 1099511627776
def ADk.append (a : ADk) (f : Int) (x : List Int) : ADk × Int := if 0 ≤ f ∧ f < 3 then (if 1048576 < (a.now.get f.toNat).length + x.length then (a, 5) else a.does ⟨f.toNat, false, 0, x⟩) else (a, 2)
def ADk.cutTo (a : ADk) (f n : Int) : ADk × Int := if 0 ≤ f ∧ f < 3 then (if n < 0 ∨ ((a.now.get f.toNat).length : Int) < n then (a, 2) else a.does ⟨f.toNat, true, n.toNat, []⟩) else (a, 2)
theorem Mem.cellNow {w : World} {b : Nat} {ok : Nat → Prop} {d : Dk} {rs : List Rop} {a : ADk} (h : Mem w b ok d rs a) (f : Nat) (hf : f < 3) : w.cell? ⟨b, 1 + f, none⟩ = some (.slice (d.now.get f).1 (a.now.get f).length (d.now.get f).2.2) := by
  rw [← (h.now.get f).reads.1]
  match f, hf with
  | 0, _ => exact h.box.cell 1 rfl
  | 1, _ => exact h.box.cell 2 rfl
  | 2, _ => exact h.box.cell 3 rfl
theorem Mem.cellSafe {w : World} {b : Nat} {ok : Nat → Prop} {d : Dk} {rs : List Rop} {a : ADk} (h : Mem w b ok d rs a) (f : Nat) (hf : f < 3) : w.cell? ⟨b, 4 + f, none⟩ = some (.slice (d.safe.get f).1 (a.safe.get f).length (d.safe.get f).2.2) := by
  rw [← (h.safe.get f).reads.1]
  match f, hf with
  | 0, _ => exact h.box.cell 4 rfl
  | 1, _ => exact h.box.cell 5 rfl
  | 2, _ => exact h.box.cell 6 rfl
theorem flat8 : Gen.Flat ku8 := fun _ _ _ _ _ h => h
theorem wrong_in {b : Nat} {d : Dk} {w : World} (h : DB w b d) (f : Nat) (hf : f < 3) : Calls Try.prog 29 #[.pointer (some ⟨b, 0, none⟩), .int .i64 f] w fun e w' => e = .returned (.int .i64 0) ∧ w = w' := by
  have := wrong_calls h f
  rw [if_pos (by omega)] at this
  exact this
set_option maxRecDepth 100000 in
set_option maxHeartbeats 4000000 in
theorem append_in {w : World} {b : Nat} {ok : Nat → Prop} {d : Dk} {rs : List Rop} {a : ADk} (h : Mem w b ok d rs a) (hq : a.Fit) (f : Nat) (hf : f < 3) (A : Option Addr) (x : List Int) (c : Nat) (hx : Kd.C ku8 w A x.length x) (hc : x.length ≤ c) (hxl : x.length ≤ 4398046511104) :
    Calls Try.prog 11 #[.pointer (some ⟨b, 0, none⟩), .int .i64 f, .slice A x.length c] w (Post w b ok d (a.append f x)) := by
  have HM := Lib.hid h
  have HW := Lib.hid (wrong_in h.box f hf)
  have gc := h.cellNow f hf
  have hlf := hq.len f
  have HQ := Lib.hid hq
  have HC := Lib.hid (Gen.clone5 ku8 rfl flat8 x A c w hx hc (by omega))
  have HF := Lib.hid hf
  obtain ⟨L, hL⟩ : ∃ L, L = (a.now.get f).length := ⟨_, rfl⟩
  rw [← hL] at gc hlf
  have HA := Lib.hid (show a.append f x = if 1048576 < L + x.length then (a, 5) else a.does ⟨f, false, 0, x⟩ by unfold ADk.append; rw [if_pos (by omega), Int.toNat_natCast, ← hL])
  have HL := Lib.hid hL
  have v1 : IntKind.i64.wrap ((L : Int) + (x.length : Int)) = (L : Int) + (x.length : Int) := by rw [IntKind.wrap_i64]; omega
  have hl1 : L ≤ 9223372036854775807 := by omega
  have hl2 : x.length ≤ 9223372036854775807 := by omega
  have key : f = 0 ∨ f = 1 ∨ f = 2 := by omega
  clear h hq hx hL
  by_cases hp : 1048576 < L + x.length
  · have p1 : (1048576 : Int) < (L : Int) + (x.length : Int) := by omega
    have HA1 := Lib.hid (HA.out.trans (if_pos hp))
    clear hp HA HC hf
    rw [HA1.out]
    rcases key with rfl | rfl | rfl
    all_goals (
      simp only [Nat.reduceAdd] at gc
      go_enter Try.func11, Try.ntmps11
      go_wp2_with fail
      refine HW.out.mono ?_
      rintro e w1 ⟨rfl, rfl⟩
      go_wp2
      go_ret
      exact Post.same HM.out 5)
  · have p1 : ¬ (1048576 : Int) < (L : Int) + (x.length : Int) := by omega
    have HA1 := Lib.hid (HA.out.trans (if_neg hp))
    have HP := Lib.hid hp
    clear hp HA hf
    rw [HA1.out]
    rcases key with rfl | rfl | rfl
    all_goals (
      simp only [Nat.reduceAdd] at gc
      go_enter Try.func11, Try.ntmps11
      go_wp2_with fail
      refine HW.out.mono ?_
      rintro e w1 ⟨rfl, rfl⟩
      go_wp2_with fail
      refine HC.out.mono ?_
      rintro e w2 ⟨v2, rfl, hr2, hb2⟩
      obtain ⟨A2, c2, hv2⟩ := Kd.R_slice hr2
      subst hv2
      have HD := Lib.hid (does_calls ((HM.out.below hb2).mono (ok' := fun k => ok k ∨ w.heap.size ≤ k) (fun _ => .inl)) HQ.out.nums ⟨_, false, 0, x⟩ (A2, x.length, c2) (R_newBy hr2) ⟨HF.out, (by intro e; cases e), (by show x.length ≤ 1048576; have := HP.out; omega), HQ.out.len _⟩ HQ.out.ops)
      have HB2 := Lib.hid hb2
      clear hr2 hb2
      go_wp2_with fail
      refine HD.out.mono ?_
      rintro e w3 ⟨d', rs', rfl, hp⟩
      have HP3 := Lib.hid hp
      clear hp
      go_wp2
      go_ret
      exact Post.back HB2.out ⟨d', rs', rfl, HP3.out⟩)
theorem wrong_out {b : Nat} {d : Dk} {w : World} (h : DB w b d) (f : Int) (hf : ¬ (0 ≤ f ∧ f < 3)) : Calls Try.prog 29 #[.pointer (some ⟨b, 0, none⟩), .int .i64 f] w fun e w' => e = .returned (.int .i64 2) ∧ w = w' := by
  have := wrong_calls h f
  rw [if_neg hf] at this
  exact this
theorem append_calls {w : World} {b : Nat} {ok : Nat → Prop} {d : Dk} {rs : List Rop} {a : ADk} (h : Mem w b ok d rs a) (hq : a.Fit) (f : Int) (A : Option Addr) (x : List Int) (c : Nat) (hx : Kd.C ku8 w A x.length x) (hc : x.length ≤ c) (hxl : x.length ≤ 4398046511104) :
    Calls Try.prog 11 #[.pointer (some ⟨b, 0, none⟩), .int .i64 f, .slice A x.length c] w (Post w b ok d (a.append f x)) := by
  by_cases hf : 0 ≤ f ∧ f < 3
  · obtain ⟨m, rfl⟩ : ∃ m : Nat, f = m := ⟨f.toNat, by omega⟩
    exact append_in h hq m (by omega) A x c hx hc hxl
  · have HW := Lib.hid (wrong_out h.box f hf)
    have HM := Lib.hid h
    have e : a.append f x = (a, 2) := by unfold ADk.append; rw [if_neg hf]
    rw [e]
    clear h hq hx hc hxl e hf
    go_enter Try.func11, Try.ntmps11
    go_wp2_with fail
    refine HW.out.mono ?_
    rintro e w1 ⟨rfl, rfl⟩
    go_wp2
    go_ret
    exact Post.same HM.out 2
set_option maxRecDepth 100000 in
set_option maxHeartbeats 4000000 in
theorem cut_in {w : World} {b : Nat} {ok : Nat → Prop} {d : Dk} {rs : List Rop} {a : ADk} (h : Mem w b ok d rs a) (hq : a.Fit) (f : Nat) (hf : f < 3) (n : Int) :
    Calls Try.prog 24 #[.pointer (some ⟨b, 0, none⟩), .int .i64 f, .int .i64 n] w (Post w b ok d (a.cutTo f n)) := by
  have HM := Lib.hid h
  have HW := Lib.hid (wrong_in h.box f hf)
  have gc := h.cellNow f hf
  have hlf := hq.len f
  have HQ := Lib.hid hq
  have HF := Lib.hid hf
  obtain ⟨L, hL⟩ : ∃ L, L = (a.now.get f).length := ⟨_, rfl⟩
  rw [← hL] at gc hlf
  have HA := Lib.hid (show a.cutTo f n = if n < 0 ∨ (L : Int) < n then (a, 2) else a.does ⟨f, true, n.toNat, []⟩ by unfold ADk.cutTo; rw [if_pos (by omega), Int.toNat_natCast, ← hL])
  have HL := Lib.hid hL
  have hl1 : L ≤ 9223372036854775807 := by omega
  have key : f = 0 ∨ f = 1 ∨ f = 2 := by omega
  clear h hq hL
  by_cases h0 : n < 0
  · have HA1 := Lib.hid (HA.out.trans (if_pos (.inl h0)))
    clear HA hf
    rw [HA1.out]
    go_enter Try.func24, Try.ntmps24
    go_wp2_with fail
    refine HW.out.mono ?_
    rintro e w1 ⟨rfl, rfl⟩
    go_wp2
    go_ret
    exact Post.same HM.out 2
  by_cases h1 : (L : Int) < n
  · have HA1 := Lib.hid (HA.out.trans (if_pos (.inr h1)))
    clear HA hf
    rw [HA1.out]
    rcases key with rfl | rfl | rfl
    all_goals (
      simp only [Nat.reduceAdd] at gc
      go_enter Try.func24, Try.ntmps24
      go_wp2_with fail
      refine HW.out.mono ?_
      rintro e w1 ⟨rfl, rfl⟩
      go_wp2
      go_ret
      exact Post.same HM.out 2)
  · obtain ⟨m, rfl⟩ : ∃ m : Nat, n = m := ⟨n.toNat, by omega⟩
    have HA1 := Lib.hid (HA.out.trans (if_neg (by omega)))
    have HP := Lib.hid (show m ≤ L by omega)
    rw [HA1.out, Int.toNat_natCast]
    have HD := Lib.hid (does_calls HM.out HQ.out.nums ⟨f, true, m, []⟩ (none, 0, 0) (By.nil _ _) ⟨HF.out, (fun _ => by show m ≤ (a.now.get f).length; rw [← HL.out]; exact HP.out), by show 0 ≤ 1048576; omega, HQ.out.len _⟩ HQ.out.ops)
    clear HA hf HA1
    rcases key with rfl | rfl | rfl
    all_goals (
      simp only [Nat.reduceAdd] at gc
      go_enter Try.func24, Try.ntmps24
      go_wp2_with fail
      refine HW.out.mono ?_
      rintro e w1 ⟨rfl, rfl⟩
      go_wp2_with fail
      refine HD.out.mono ?_
      rintro e w3 ⟨d', rs', rfl, hp⟩
      have HP3 := Lib.hid hp
      clear hp
      go_wp2
      go_ret
      exact ⟨d', rs', rfl, HP3.out⟩)
theorem cut_calls {w : World} {b : Nat} {ok : Nat → Prop} {d : Dk} {rs : List Rop} {a : ADk} (h : Mem w b ok d rs a) (hq : a.Fit) (f n : Int) :
    Calls Try.prog 24 #[.pointer (some ⟨b, 0, none⟩), .int .i64 f, .int .i64 n] w (Post w b ok d (a.cutTo f n)) := by
  by_cases hf : 0 ≤ f ∧ f < 3
  · obtain ⟨m, rfl⟩ : ∃ m : Nat, f = m := ⟨f.toNat, by omega⟩
    exact cut_in h hq m (by omega) n
  · have HW := Lib.hid (wrong_out h.box f hf)
    have HM := Lib.hid h
    have e : a.cutTo f n = (a, 2) := by unfold ADk.cutTo; rw [if_neg hf]
    rw [e]
    clear h hq e hf
    go_enter Try.func24, Try.ntmps24
    go_wp2_with fail
    refine HW.out.mono ?_
    rintro e w1 ⟨rfl, rfl⟩
    go_wp2
    go_ret
    exact Post.same HM.out 2
end Go.Proofs.Ytfggcdpipolahaa.PF
