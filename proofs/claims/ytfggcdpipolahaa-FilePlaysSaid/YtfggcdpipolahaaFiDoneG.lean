/- Files behind any operation. -/
import Derived.Test.YtfggcdpipolahaaFiMem
set_option linter.unusedVariables false
set_option linter.unusedSimpArgs false
namespace Go.Proofs.Ytfggcdpipolahaa.PF
open Go.RowKit Go.Proofs.YtfggcdpipolahaaW.PrintWords Go.Proofs.YtfggcdpipolahaaW.PrintLast Go.Proofs.YtfggcdpipolahaaW.PrintMore
theorem R_newBy {w w' : World} {ok : Nat → Prop} {v : Value} {x : List Int} (h : Kd.R ku8 5 w' w.heap.size (fun _ => True) v x) : Kd.R ku8 5 w' 0 (fun k => ok k ∨ w.heap.size ≤ k) v x :=
  Kd.R_lower (Kd.R_mono (Kd.R_bound h) (fun k hk => .inr hk.2.1)) (Nat.zero_le _)
theorem take_min (m : List Int) (t : Nat) : m.take (min t m.length) = m.take t := by
  by_cases h : t ≤ m.length
  · rw [Nat.min_eq_left h]
  · rw [Nat.min_eq_right (by omega), List.take_of_length_le (Nat.le_refl _), List.take_of_length_le (by omega)]
set_option maxHeartbeats 1000000 in
theorem done_calls {ok : Nat → Prop} {w : World} {ss : S3} {xs : Fs} (h3 : By3 ok w ss xs) (o : AOp) (D : Sl) (hD : By ok w D o.data) (hok : o.Ok xs) (torn : Nat) :
    Calls Try.prog 35 #[ss.agg, .agg #[.int .i64 o.f, .bool o.cut, .int .i64 o.n, .slice D.1 D.2.1 D.2.2], .int .i64 torn] w fun e w' => ∃ ss' : S3, e = .returned ss'.agg ∧ By3 (fun k => ok k ∨ w.heap.size ≤ k) w' ss' (xs.done o torn) ∧ Below w.heap.size w w' := by
  obtain ⟨f, cut, n, data⟩ := o
  obtain ⟨⟨A0, n0, c0⟩, ⟨A1, n1, c1⟩, ⟨A2, n2, c2⟩⟩ := ss
  obtain ⟨x0, x1, x2⟩ := xs
  obtain ⟨Ad, nd, cd⟩ := D
  obtain rfl : n0 = x0.length := h3.a.reads.1
  obtain rfl : n1 = x1.length := h3.b.reads.1
  obtain rfl : n2 = x2.length := h3.c.reads.1
  obtain rfl : nd = data.length := hD.reads.1
  have hf : f < 3 := hok.f
  have keep : ∀ {w'}, Below w.heap.size w w' → By3 (fun k => ok k ∨ w.heap.size ≤ k) w' ⟨(A0, x0.length, c0), (A1, x1.length, c1), (A2, x2.length, c2)⟩ ⟨x0, x1, x2⟩ := fun hb => h3.map (fun _ _ g => (g.below hb).mono (fun _ => .inl))
  have hmin : (if (data.length : Int) < (torn : Int) then (data.length : Int) else (torn : Int)) = ((min torn data.length : Nat) : Int) := by split <;> omega
  cases cut with
  | true =>
    have hn : n ≤ (Fs.get ⟨x0, x1, x2⟩ f).length := hok.n rfl
    match f, hf with
    | 0, _ =>
      have hn' : n ≤ x0.length := hn
      refine (done_cut0 (A0, x0.length, c0) (A1, x1.length, c1) (A2, x2.length, c2) n (Nat.le_trans hn' h3.a.reads.2.1) (Ad, data.length, cd) torn w).mono ?_
      rintro e w' ⟨rfl, hb⟩
      exact ⟨⟨(A0, n, c0), (A1, x1.length, c1), (A2, x2.length, c2)⟩, rfl, (keep hb).set 0 ((keep hb).a.take hn'), hb⟩
    | 1, _ =>
      have hn' : n ≤ x1.length := hn
      refine (done_cut1 (A0, x0.length, c0) (A1, x1.length, c1) (A2, x2.length, c2) n (Nat.le_trans hn' h3.b.reads.2.1) (Ad, data.length, cd) torn w).mono ?_
      rintro e w' ⟨rfl, hb⟩
      exact ⟨⟨(A0, x0.length, c0), (A1, n, c1), (A2, x2.length, c2)⟩, rfl, (keep hb).set 1 ((keep hb).b.take hn'), hb⟩
    | 2, _ =>
      have hn' : n ≤ x2.length := hn
      refine (done_cut2 (A0, x0.length, c0) (A1, x1.length, c1) (A2, x2.length, c2) n (Nat.le_trans hn' h3.c.reads.2.1) (Ad, data.length, cd) torn w).mono ?_
      rintro e w' ⟨rfl, hb⟩
      exact ⟨⟨(A0, x0.length, c0), (A1, x1.length, c1), (A2, n, c2)⟩, rfl, (keep hb).set 2 ((keep hb).c.take hn'), hb⟩
  | false =>
    have hlen : (Fs.get ⟨x0, x1, x2⟩ f).length ≤ 1048576 := hok.len
    have hdat : data.length ≤ 1048576 := hok.data
    match f, hf with
    | 0, _ =>
      have hl : x0.length ≤ 1048576 := hlen
      refine (done_app0 w (A1, x1.length, c1) (A2, x2.length, c2) x0 data A0 c0 h3.a.reads.2.2 Ad cd hD.reads.2.2 hD.reads.2.1 n torn (min torn data.length) (Nat.min_le_right _ _) hmin (by omega)).mono ?_
      rintro e w' ⟨A', c', rfl, hr, hb⟩
      have hr' := R_newBy (ok := ok) hr
      rw [take_min] at hr' ⊢
      exact ⟨⟨(A', (x0 ++ data.take torn).length, c'), (A1, x1.length, c1), (A2, x2.length, c2)⟩, rfl, (keep hb).set 0 hr', hb⟩
    | 1, _ =>
      have hl : x1.length ≤ 1048576 := hlen
      refine (done_app1 w (A0, x0.length, c0) (A2, x2.length, c2) x1 data A1 c1 h3.b.reads.2.2 Ad cd hD.reads.2.2 hD.reads.2.1 n torn (min torn data.length) (Nat.min_le_right _ _) hmin (by omega)).mono ?_
      rintro e w' ⟨A', c', rfl, hr, hb⟩
      have hr' := R_newBy (ok := ok) hr
      rw [take_min] at hr' ⊢
      exact ⟨⟨(A0, x0.length, c0), (A', (x1 ++ data.take torn).length, c'), (A2, x2.length, c2)⟩, rfl, (keep hb).set 1 hr', hb⟩
    | 2, _ =>
      have hl : x2.length ≤ 1048576 := hlen
      refine (done_app2 w (A0, x0.length, c0) (A1, x1.length, c1) x2 data A2 c2 h3.c.reads.2.2 Ad cd hD.reads.2.2 hD.reads.2.1 n torn (min torn data.length) (Nat.min_le_right _ _) hmin (by omega)).mono ?_
      rintro e w' ⟨A', c', rfl, hr, hb⟩
      have hr' := R_newBy (ok := ok) hr
      rw [take_min] at hr' ⊢
      exact ⟨⟨(A0, x0.length, c0), (A1, x1.length, c1), (A', (x2 ++ data.take torn).length, c')⟩, rfl, (keep hb).set 2 hr', hb⟩
/-- What stops an operation. -/
def ADk.stop (a : ADk) : ADk × Int := if a.down = true then (a, 6) else if a.arm = 1 then ({ a with arm := dec a.arm, fail := dec a.fail, down := true }, 6) else if a.fail = 1 then ({ a with arm := dec a.arm, fail := dec a.fail }, a.wth) else ({ a with arm := dec a.arm, fail := dec a.fail }, 0)
theorem Mem.stop {w w' : World} {b : Nat} {ok : Nat → Prop} {d : Dk} {rs : List Rop} {a : ADk} (h : Mem w b ok d rs a) (hb : DB w' b (stop d).1) (hg : w.grownBy w' (some b)) : Mem w' b ok (stop d).1 rs a.stop.1 ∧ (stop d).2 = a.stop.2 := by
  obtain ⟨hbx, hn, hs, ho, hr, h1, h2, h3, h4⟩ := h
  unfold PF.stop at hb ⊢
  unfold ADk.stop
  rw [← h1, ← h2, ← h3]
  by_cases c1 : d.down = true
  · rw [if_pos c1] at hb ⊢
    rw [if_pos c1]
    exact ⟨Mem.rebox ⟨hbx, hn, hs, ho, hr, h1, h2, h3, h4⟩ hg hb hn hs ho hr h1 h2 h3 h4, rfl⟩
  · rw [if_neg c1] at hb ⊢
    rw [if_neg c1]
    by_cases c2 : d.arm = 1
    · rw [if_pos c2] at hb ⊢
      rw [if_pos c2]
      exact ⟨Mem.rebox ⟨hbx, hn, hs, ho, hr, h1, h2, h3, h4⟩ hg hb hn hs ho hr rfl rfl rfl h4, rfl⟩
    · rw [if_neg c2] at hb ⊢
      rw [if_neg c2]
      by_cases c3 : d.fail = 1
      · rw [if_pos c3] at hb ⊢
        rw [if_pos c3]
        exact ⟨Mem.rebox ⟨hbx, hn, hs, ho, hr, h1, h2, h3, h4⟩ hg hb hn hs ho hr rfl rfl rfl h4, h4⟩
      · rw [if_neg c3] at hb ⊢
        rw [if_neg c3]
        exact ⟨Mem.rebox ⟨hbx, hn, hs, ho, hr, h1, h2, h3, h4⟩ hg hb hn hs ho hr rfl rfl rfl h4, rfl⟩
structure ADk.Nums (a : ADk) : Prop where
  arm : 0 ≤ a.arm ∧ a.arm ≤ 9223372036854775807
  fail : 0 ≤ a.fail ∧ a.fail ≤ 9223372036854775807
theorem stoppedM_calls {w : World} {b : Nat} {ok : Nat → Prop} {d : Dk} {rs : List Rop} {a : ADk} (h : Mem w b ok d rs a) (hn : a.Nums) :
    Calls Try.prog 33 #[.pointer (some ⟨b, 0, none⟩)] w fun e w' => e = .returned (.int .i64 a.stop.2) ∧ Mem w' b ok (stop d).1 rs a.stop.1 ∧ w.grownBy w' (some b) := by
  refine (stopped_calls h.box (by rw [h.arm]; exact hn.arm) (by rw [h.fail]; exact hn.fail)).mono ?_
  rintro e w' ⟨rfl, hb, hg⟩
  have := h.stop hb hg
  exact ⟨by rw [this.2], this.1, hg⟩
end Go.Proofs.Ytfggcdpipolahaa.PF
