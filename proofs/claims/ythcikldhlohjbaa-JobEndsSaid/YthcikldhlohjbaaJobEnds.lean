/- JobEnds of musterlaw18. (A part of the print PJ.) -/
import Derived.Test.YthcikldhlohjbaaJobAwake
set_option linter.unusedVariables false
set_option linter.unusedSimpArgs false
namespace Go.Proofs.Ythcikldhlohjbaa.PJ
open Go.RowKit Go.Proofs.YthcikldhlohjbaaW.PrintWords Go.Proofs.YthcikldhlohjbaaW.PrintLast Go.Proofs.YthcikldhlohjbaaW.PrintMore Go.Proofs.Ythcikldhlohjbaa.Ones
def begunJ (x : S43) (on now : Int) : S43 := { x with f4 := 2, f6 := now, f8 := on }
theorem begun_of {x : S43} {on now : Int} (h : (beginJ x on now).2 = 0) : beginJ x on now = (begunJ x on now, 0) ∧ rightJ x = true ∧ ones on = x.f3.f4 ∧ x.f5 ≤ now ∧ now ≤ 1099511627776 ∧ x.f4 = 1 := by
  unfold beginJ at h ⊢
  by_cases h1 : rightJ x = true ∧ ones on = x.f3.f4 ∧ x.f5 ≤ now ∧ now ≤ 1099511627776
  · rw [if_pos h1] at h ⊢
    by_cases h2 : x.f4 = 1
    · rw [if_pos h2]
      exact ⟨rfl, h1.1, h1.2.1, h1.2.2.1, h1.2.2.2, h2⟩
    · rw [if_neg h2] at h
      cases h
  · rw [if_neg h1] at h
    cases h
theorem pend_of {x : S43} (h : rightJ x = true) (h4 : x.f4 = 1) : shapedJ x = true ∧ x.f8 = 0 ∧ x.f6 = 0 ∧ x.f9 = 0 ∧ x.f7 = 0 := by
  unfold rightJ rightS at h
  rw [if_pos h4, Bool.and_eq_true, Bool.and_eq_true] at h
  obtain ⟨h1, h2, h3⟩ := h
  have h5 := of_decide_eq_true h2
  exact ⟨h1, h5.1, h5.2.1, h5.2.2, of_decide_eq_true h3⟩
theorem begun_right {x : S43} {on now : Int} (h : rightJ x = true) (ho : ones on = x.f3.f4) (h5 : x.f5 ≤ now) (hm : now ≤ 1099511627776) (h4 : x.f4 = 1) : rightJ (begunJ x on now) = true := by
  obtain ⟨p1, p2, p3, p4, p5⟩ := pend_of h h4
  have e1 : shapedJ (begunJ x on now) = true := p1
  have e2 : ranJ (begunJ x on now) = true := decide_eq_true ⟨ho, h5, hm⟩
  unfold rightJ rightS
  rw [e1, e2]
  show (true && (if (2 : Int) = 1 then _ else if (2 : Int) = 2 then true && decide (x.f7 = 0) && decide (x.f9 = 0) else _)) = true
  rw [if_neg (by decide), if_pos rfl, p4, p5]
  rfl
theorem finish_bad {x : S43} {on now st ex now2 : Int} (h : rightJ x = true) (ho : ones on = x.f3.f4) (h5 : x.f5 ≤ now) (hm : now ≤ 1099511627776) (h4 : x.f4 = 1) (hf : (finishJ (begunJ x on now) st ex now2).2 ≠ 0) : overS st = false ∨ st = 8 ∨ now2 < now ∨ 1099511627776 < now2 := by
  have hr := begun_right h ho h5 hm h4
  by_cases c1 : now2 < now
  · exact Or.inr (Or.inr (Or.inl c1))
  by_cases c2 : 1099511627776 < now2
  · exact Or.inr (Or.inr (Or.inr c2))
  by_cases c3 : st = 8
  · exact Or.inr (Or.inl c3)
  left
  cases c4 : overS st with
  | false => rfl
  | true =>
    have c5 := of_decide_eq_true c4
    exfalso
    apply hf
    unfold finishJ
    rw [if_pos ⟨hr, Or.inl (show max x.f5 now ≤ now2 by omega), (show x.f5 ≤ now2 by omega), by omega⟩]
    have hm : st ∈ nextL (begunJ x on now).f4 := by
      show st ∈ nextL 2
      have : st = 3 ∨ st = 4 ∨ st = 5 ∨ st = 6 ∨ st = 7 := by omega
      rcases this with rfl | rfl | rfl | rfl | rfl <;> decide
    rw [if_pos hm]
theorem finish_good {x : S43} {on now st ex now2 : Int} (h : rightJ x = true) (h4 : x.f4 = 1) (hf : (finishJ (begunJ x on now) st ex now2).2 = 0) :
    endJ (finishJ (begunJ x on now) st ex now2).1 = now2 ∧ (finishJ (begunJ x on now) st ex now2).1.f6 = now ∧ (((finishJ (begunJ x on now) st ex now2).1.f9 == 0) == ((finishJ (begunJ x on now) st ex now2).1.f4 != 4)) = true ∧ overS (finishJ (begunJ x on now) st ex now2).1.f4 = true := by
  obtain ⟨p1, p2, p3, p4, p5⟩ := pend_of h h4
  unfold finishJ at hf ⊢
  split at hf
  · rename_i c1
    rw [if_pos c1]
    split at hf
    · rename_i c2
      rw [if_pos c2]
      have c3 : st ∈ ([3, 4, 5, 6, 7] : List Int) := c2
      simp at c3
      refine ⟨?_, rfl, ?_, ?_⟩
      · unfold endJ
        show (if st = 2 then _ else if overS st = true then now2 else 0) = now2
        rw [if_neg (by omega), if_pos (show overS st = true from decide_eq_true (by omega))]
      · show ((if st = 4 then (if ex = 0 then 1 else ex) else x.f9) == 0) == (st != 4)
        rw [p4]
        by_cases c4 : st = 4
        · rw [if_pos c4, c4]
          by_cases c5 : ex = 0
          · rw [if_pos c5]; rfl
          · rw [if_neg c5, show (ex == 0) = false from beq_eq_false_iff_ne.2 c5]; rfl
        · rw [if_neg c4, show (st != 4) = true from bne_iff_ne.2 c4]; rfl
      · show overS st = true
        exact decide_eq_true (by omega)
    · cases hf
  · cases hf
/-- What a region holds: a job's box, three numbers beside it, the job's value, what lay stays. -/
def EK (w0 : World) (b7 b4 b5 b3 : Nat) (u : Nat → Value) (a1 a2 a3 : Value) (D : S43) (A : Option Addr) (c : Nat) (C7 C4 C5 C3 : Array Value) (w' : World) : Prop :=
  w'.cell? ⟨b7, 0, none⟩ = some (u 0) ∧ w'.cell? ⟨b7, 1, none⟩ = some (u 1) ∧ w'.cell? ⟨b7, 2, none⟩ = some (u 2) ∧ w'.cell? ⟨b7, 3, none⟩ = some (u 3) ∧ w'.cell? ⟨b7, 4, none⟩ = some (u 4) ∧ w'.cell? ⟨b7, 5, none⟩ = some (u 5) ∧ w'.cell? ⟨b7, 6, none⟩ = some (u 6) ∧ w'.cell? ⟨b7, 7, none⟩ = some (u 7) ∧ w'.cell? ⟨b7, 8, none⟩ = some (u 8) ∧ w'.cell? ⟨b7, 9, none⟩ = some (u 9) ∧ w'.cell? ⟨b7, 10, none⟩ = some (u 10) ∧ w'.cell? ⟨b7, 11, none⟩ = some (u 11) ∧ w'.cell? ⟨b7, 12, none⟩ = some (u 12) ∧ w'.cell? ⟨b7, 13, none⟩ = some (u 13) ∧ w'.cell? ⟨b7, 14, none⟩ = some (u 14) ∧ w'.cell? ⟨b7, 15, none⟩ = some (u 15) ∧ w'.cell? ⟨b7, 16, none⟩ = some (u 16) ∧ w'.cell? ⟨b4, 3, none⟩ = some a1 ∧ w'.cell? ⟨b5, 3, none⟩ = some a2 ∧ w'.cell? ⟨b3, 9, none⟩ = some a3 ∧ w'.heap[b7]? = some (.cells C7 43 (0, 0)) ∧ w'.heap[b4]? = some (.cells C4 72 (0, 0)) ∧ w'.heap[b5]? = some (.cells C5 72 (0, 0)) ∧ w'.heap[b3]? = some (.cells C3 43 (0, 0)) ∧ JV w' D A c ∧ Below w0.heap.size w0 w'
theorem EK.keep {w0 w1 w2 : World} {b7 b4 b5 b3 : Nat} {u : Nat → Value} {a1 a2 a3 : Value} {D : S43} {A : Option Addr} {c : Nat} {C7 C4 C5 C3 : Array Value} (h : EK w0 b7 b4 b5 b3 u a1 a2 a3 D A c C7 C4 C5 C3 w1) (hb : Below w1.heap.size w1 w2) : EK w0 b7 b4 b5 b3 u a1 a2 a3 D A c C7 C4 C5 C3 w2 := by
  obtain ⟨h0, h1, h2, h3, h4, h5, h6, h7, h8, h9, h10, h11, h12, h13, h14, h15, h16, h17, h18, h19, h20, h21, h22, h23, h24, h25⟩ := h
  have key : ∀ {a : Addr} {v : Value}, w1.cell? a = some v → w2.cell? a = some v := fun h => (hb.cell (World.block_lt_of_cell? w1 _ h)).trans h
  exact ⟨key h0, key h1, key h2, key h3, key h4, key h5, key h6, key h7, key h8, key h9, key h10, key h11, key h12, key h13, key h14, key h15, key h16, key h17, key h18, key h19, blk_below h20 hb, blk_below h21 hb, blk_below h22 hb, blk_below h23 hb, h24.keep hb, below_then h25 h25.size hb⟩
theorem EK.jv {w0 w1 : World} {b7 b4 b5 b3 : Nat} {u : Nat → Value} {a1 a2 a3 : Value} {D : S43} {A : Option Addr} {c : Nat} {C7 C4 C5 C3 : Array Value} (h : EK w0 b7 b4 b5 b3 u a1 a2 a3 D A c C7 C4 C5 C3 w1) : JV w1 D A c := by
  obtain ⟨h0, h1, h2, h3, h4, h5, h6, h7, h8, h9, h10, h11, h12, h13, h14, h15, h16, h17, h18, h19, h20, h21, h22, h23, h24, h25⟩ := h
  exact h24
theorem EK.below {w0 w1 : World} {b7 b4 b5 b3 : Nat} {u : Nat → Value} {a1 a2 a3 : Value} {D : S43} {A : Option Addr} {c : Nat} {C7 C4 C5 C3 : Array Value} (h : EK w0 b7 b4 b5 b3 u a1 a2 a3 D A c C7 C4 C5 C3 w1) : Below w0.heap.size w0 w1 := by
  obtain ⟨h0, h1, h2, h3, h4, h5, h6, h7, h8, h9, h10, h11, h12, h13, h14, h15, h16, h17, h18, h19, h20, h21, h22, h23, h24, h25⟩ := h
  exact h25
set_option maxRecDepth 100000 in
set_option maxHeartbeats 4000000 in
theorem jobEnds_calls (x : S43) (A : Option Addr) (c : Nat) (o0 o1 o2 o3 v0 v1 v2 v3 : Int) (w : World) (h : JOk x) (ho : u32ok o0) (hv : JV w x A c) :
    Calls Try.prog 10 #[.agg #[.int .i64 x.f0, .int .i64 x.f1, .int .i64 x.f2, .string x.f3.f0, .string x.f3.f1, .string x.f3.f2, .string x.f3.f3, .int .i64 x.f3.f4, .int .i64 x.f3.f5, .int .i64 x.f3.f6, .slice A x.f3.f7.length c, .int .u8 x.f4, .int .i64 x.f5, .int .i64 x.f6, .int .i64 x.f7, .int .u32 x.f8, .int .i64 x.f9], .agg #[.int .u32 o0, .int .u8 o1, .int .i64 o2, .int .i64 o3], .agg #[.int .u32 v0, .int .u8 v1, .int .i64 v2, .int .i64 v3]] w fun e w' => e = .returned (.bool true) ∧ Below w.heap.size w w' := by
  have HV := Lib.hid hv
  have HO := Lib.hid ho
  have HX := Lib.hid h
  clear hv ho h
  go_enter Try.func10, Try.ntmps10
  go_upto_region 1 with (fail)
  generalize hWD : ((w.alloc (.cells _ 43)).alloc (.cells _ 72)).alloc (.cells _ 72) = WD
  have es := size_al
  obtain ⟨b3, hb3⟩ : ∃ b, b = w.heap.size := ⟨_, rfl⟩
  obtain ⟨b4, hb4⟩ : ∃ b, b = w.heap.size + 1 := ⟨_, rfl⟩
  obtain ⟨b5, hb5⟩ : ∃ b, b = w.heap.size + 1 + 1 := ⟨_, rfl⟩
  rw [← hb5, ← hb4, ← hb3]
  have K : Hid (JBox WD b3 x A c) := Lib.hid (by rw [← hWD, hb3]; exact blk_alloc (blk_alloc (blk_new _ _) _) _)
  have T4 : Hid (WD.heap[b4]? = some (.cells #[.int .u32 o0, .int .u8 o1, .int .i64 o2, .int .i64 o3] 72 (0, 0))) := Lib.hid (by rw [← hWD, hb4]; refine blk_alloc ?_ _; rw [← es]; exact blk_new _ _)
  have T5 : Hid (WD.heap[b5]? = some (.cells #[.int .u32 v0, .int .u8 v1, .int .i64 v2, .int .i64 v3] 72 (0, 0))) := Lib.hid (by rw [← hWD, hb5, ← es, ← es]; exact blk_new _ _)
  have hk : Below w.heap.size w WD := by rw [← hWD]; exact below_alloc (below_alloc (below_alloc (Below.refl _ _) _) _) _
  replace HV := Lib.hid (HV.out.keep hk)
  have HB := Lib.hid hk
  clear hWD es hb3 hb4 hb5 hk
  have g0 : WD.cell? ⟨b4, 0, none⟩ = some (.int .u32 o0) := (blk_cell T4.out 0).trans rfl
  have g3 : WD.cell? ⟨b4, 3, none⟩ = some (.int .i64 o3) := (blk_cell T4.out 3).trans rfl
  have hld := K.out.load
  go_wp2_with ((with_reducible refine gate_ (.load 43 (.tmp 3)) rfl ?_); refine wl_load 43 (.tmp 3) rfl rfl _ _ rfl hld ?_)
  refine (begin_calls o3 HX.out HO.out A c _ HV.out).mono ?_
  rintro e w1 ⟨A1, c1, he, hv1, hb⟩
  clear hld g0 g3
  by_cases hz : (beginJ x o0 o3).2 = 0
  · as_aux_lemma =>
    obtain ⟨q1, q2, q3, q4, q5, q6⟩ := begun_of hz
    have HQ := Lib.hid (And.intro q2 (And.intro q3 (And.intro q4 (And.intro q5 q6))))
    rw [q1] at he hv1
    obtain ⟨R, hR⟩ : ∃ R, R = begunJ x o0 o3 := ⟨_, rfl⟩
    have HRj : JOk R := by rw [hR]; exact ⟨HO.out, HX.out.2⟩
    have r4 : R.f4 = 2 := by rw [hR]; rfl
    have r6 : R.f6 = o3 := by rw [hR]; rfl
    have r9 : R.f9 = 0 := by rw [hR]; exact (pend_of q2 q6).2.2.2.1
    have rl : R.f3.f6 = x.f3.f6 := by rw [hR]; rfl
    replace he : e = .returned (.tuple #[.agg #[.int .i64 R.f0, .int .i64 R.f1, .int .i64 R.f2, .string R.f3.f0, .string R.f3.f1, .string R.f3.f2, .string R.f3.f3, .int .i64 R.f3.f4, .int .i64 R.f3.f5, .int .i64 R.f3.f6, .slice A1 R.f3.f7.length c1, .int .u8 R.f4, .int .i64 R.f5, .int .i64 R.f6, .int .i64 R.f7, .int .u32 R.f8, .int .i64 R.f9], .int .i64 0]) := by rw [hR]; exact he
    replace hv1 : JV w1 R A1 c1 := by rw [hR]; exact hv1
    rw [r4, r6, r9] at he
    subst he
    replace hR := Lib.hid hR
    replace r4 := Lib.hid r4
    replace r6 := Lib.hid r6
    replace r9 := Lib.hid r9
    replace rl := Lib.hid rl
    replace HRj := Lib.hid HRj
    clear q1 q2 q3 q4 q5 q6 hz HX HO
    go_upto_region 2 with (fail)
    generalize hWD : w1.alloc (.cells _ 43) = W2
    obtain ⟨b7, hb7⟩ : ∃ b, b = w1.heap.size := ⟨_, rfl⟩
    rw [← hb7]
    have K7 : Hid (W2.heap[b7]? = some (.cells #[.int .i64 R.f0, .int .i64 R.f1, .int .i64 R.f2, .string R.f3.f0, .string R.f3.f1, .string R.f3.f2, .string R.f3.f3, .int .i64 R.f3.f4, .int .i64 R.f3.f5, .int .i64 R.f3.f6, .slice A1 R.f3.f7.length c1, .int .u8 2, .int .i64 R.f5, .int .i64 o3, .int .i64 R.f7, .int .u32 R.f8, .int .i64 0] 43 (0, 0))) := Lib.hid (by rw [← hWD, hb7]; exact blk_new _ _)
    have hk : Below w1.heap.size w1 W2 := by rw [← hWD]; exact below_alloc (Below.refl _ _) _
    have V7 := Lib.hid (hv1.keep hk)
    replace hk := below_then hb hb.size hk
    replace K := Lib.hid (K.out.keep hk)
    replace T4 := Lib.hid (blk_below T4.out hk)
    replace T5 := Lib.hid (blk_below T5.out hk)
    replace HB := Lib.hid (below_then HB.out HB.out.size hk)
    clear hWD hb7 hb hk hv1 HV
    have hld7 := JBox.load (show JBox W2 b7 R A1 c1 by unfold JBox jobC; rw [r4.out, r6.out, r9.out]; exact K7.out)
    clear hld7
    obtain ⟨C7, hC7⟩ : ∃ C : Array Value, C = #[.int .i64 R.f0, .int .i64 R.f1, .int .i64 R.f2, .string R.f3.f0, .string R.f3.f1, .string R.f3.f2, .string R.f3.f3, .int .i64 R.f3.f4, .int .i64 R.f3.f5, .int .i64 R.f3.f6, .slice A1 R.f3.f7.length c1, .int .u8 2, .int .i64 R.f5, .int .i64 o3, .int .i64 R.f7, .int .u32 R.f8, .int .i64 0] := ⟨_, rfl⟩
    obtain ⟨C4, hC4⟩ : ∃ C : Array Value, C = #[.int .u32 o0, .int .u8 o1, .int .i64 o2, .int .i64 o3] := ⟨_, rfl⟩
    obtain ⟨C5, hC5⟩ : ∃ C : Array Value, C = #[.int .u32 v0, .int .u8 v1, .int .i64 v2, .int .i64 v3] := ⟨_, rfl⟩
    obtain ⟨C3, hC3⟩ : ∃ C : Array Value, C = jobC x A c := ⟨_, rfl⟩
    have hS : W2.cell? ⟨b7, 0, none⟩ = some (.int .i64 R.f0) ∧ W2.cell? ⟨b7, 1, none⟩ = some (.int .i64 R.f1) ∧ W2.cell? ⟨b7, 2, none⟩ = some (.int .i64 R.f2) ∧ W2.cell? ⟨b7, 3, none⟩ = some (.string R.f3.f0) ∧ W2.cell? ⟨b7, 4, none⟩ = some (.string R.f3.f1) ∧ W2.cell? ⟨b7, 5, none⟩ = some (.string R.f3.f2) ∧ W2.cell? ⟨b7, 6, none⟩ = some (.string R.f3.f3) ∧ W2.cell? ⟨b7, 7, none⟩ = some (.int .i64 R.f3.f4) ∧ W2.cell? ⟨b7, 8, none⟩ = some (.int .i64 R.f3.f5) ∧ W2.cell? ⟨b7, 9, none⟩ = some (.int .i64 R.f3.f6) ∧ W2.cell? ⟨b7, 10, none⟩ = some (.slice A1 R.f3.f7.length c1) ∧ W2.cell? ⟨b7, 11, none⟩ = some (.int .u8 2) ∧ W2.cell? ⟨b7, 12, none⟩ = some (.int .i64 R.f5) ∧ W2.cell? ⟨b7, 13, none⟩ = some (.int .i64 o3) ∧ W2.cell? ⟨b7, 14, none⟩ = some (.int .i64 R.f7) ∧ W2.cell? ⟨b7, 15, none⟩ = some (.int .u32 R.f8) ∧ W2.cell? ⟨b7, 16, none⟩ = some (.int .i64 0) ∧ W2.cell? ⟨b4, 3, none⟩ = some (.int .i64 o3) ∧ W2.cell? ⟨b5, 3, none⟩ = some (.int .i64 v3) ∧ W2.cell? ⟨b3, 9, none⟩ = some (.int .i64 x.f3.f6) ∧ W2.heap[b7]? = some (.cells C7 43 (0, 0)) ∧ W2.heap[b4]? = some (.cells C4 72 (0, 0)) ∧ W2.heap[b5]? = some (.cells C5 72 (0, 0)) ∧ W2.heap[b3]? = some (.cells C3 43 (0, 0)) ∧ JV W2 R A1 c1 ∧ Below w.heap.size w W2 := by
      rw [hC7, hC4, hC5, hC3]
      exact ⟨(blk_cell K7.out 0).trans rfl, (blk_cell K7.out 1).trans rfl, (blk_cell K7.out 2).trans rfl, (blk_cell K7.out 3).trans rfl, (blk_cell K7.out 4).trans rfl, (blk_cell K7.out 5).trans rfl, (blk_cell K7.out 6).trans rfl, (blk_cell K7.out 7).trans rfl, (blk_cell K7.out 8).trans rfl, (blk_cell K7.out 9).trans rfl, (blk_cell K7.out 10).trans rfl, (blk_cell K7.out 11).trans rfl, (blk_cell K7.out 12).trans rfl, (blk_cell K7.out 13).trans rfl, (blk_cell K7.out 14).trans rfl, (blk_cell K7.out 15).trans rfl, (blk_cell K7.out 16).trans rfl, (blk_cell T4.out 3).trans rfl, (blk_cell T5.out 3).trans rfl, JBox.cell K.out 9 rfl, K7.out, T4.out, T5.out, K.out, V7.out, HB.out⟩
    replace hC7 := Lib.hid hC7
    replace hC4 := Lib.hid hC4
    replace hC5 := Lib.hid hC5
    replace hC3 := Lib.hid hC3
    have hEnd : Hid (∀ W, JV W R A1 c1 → Calls Try.prog 54 #[.agg #[.int .i64 R.f0, .int .i64 R.f1, .int .i64 R.f2, .string R.f3.f0, .string R.f3.f1, .string R.f3.f2, .string R.f3.f3, .int .i64 R.f3.f4, .int .i64 R.f3.f5, .int .i64 R.f3.f6, .slice A1 R.f3.f7.length c1, .int .u8 2, .int .i64 R.f5, .int .i64 o3, .int .i64 R.f7, .int .u32 R.f8, .int .i64 0]] W fun e w' => e = .returned (.int .i64 (endJ R)) ∧ Below W.heap.size W w') := Lib.hid (fun W hW => by
      have := end_calls R A1 c1 W hW
      unfold jobV jobC at this
      rw [r4.out, r6.out, r9.out] at this
      exact this)
    have hq : endJ R = wrap64 (o3 + x.f3.f6) := by unfold endJ; rw [if_pos r4.out, r6.out, rl.out]
    have hOv : Hid (∀ W, Calls Try.prog 51 #[.int .u8 2] W fun e w' => e = .returned (.bool false) ∧ Below W.heap.size W w') := Lib.hid (fun W => over_calls 2 W)
    obtain ⟨en, hen⟩ : ∃ n, n = endJ R := ⟨_, rfl⟩
    rw [← hen] at hEnd hq
    have hq1 : (en != wrap64 (o3 + x.f3.f6)) = false := by rw [hq]; exact bne_self_eq_false _
    have hq2 : (en != IntKind.i64.wrap (o3 + x.f3.f6)) = false := by rw [i64_w]; exact hq1
    clear hen hq K T4 T5 K7 V7 HB
    go_upto_region 4 with (fail)
    go_cut [41] (fun v41 wc => v41 = .bool false ∧ (wc.cell? ⟨b7, 0, none⟩ = some (.int .i64 R.f0) ∧ wc.cell? ⟨b7, 1, none⟩ = some (.int .i64 R.f1) ∧ wc.cell? ⟨b7, 2, none⟩ = some (.int .i64 R.f2) ∧ wc.cell? ⟨b7, 3, none⟩ = some (.string R.f3.f0) ∧ wc.cell? ⟨b7, 4, none⟩ = some (.string R.f3.f1) ∧ wc.cell? ⟨b7, 5, none⟩ = some (.string R.f3.f2) ∧ wc.cell? ⟨b7, 6, none⟩ = some (.string R.f3.f3) ∧ wc.cell? ⟨b7, 7, none⟩ = some (.int .i64 R.f3.f4) ∧ wc.cell? ⟨b7, 8, none⟩ = some (.int .i64 R.f3.f5) ∧ wc.cell? ⟨b7, 9, none⟩ = some (.int .i64 R.f3.f6) ∧ wc.cell? ⟨b7, 10, none⟩ = some (.slice A1 R.f3.f7.length c1) ∧ wc.cell? ⟨b7, 11, none⟩ = some (.int .u8 2) ∧ wc.cell? ⟨b7, 12, none⟩ = some (.int .i64 R.f5) ∧ wc.cell? ⟨b7, 13, none⟩ = some (.int .i64 o3) ∧ wc.cell? ⟨b7, 14, none⟩ = some (.int .i64 R.f7) ∧ wc.cell? ⟨b7, 15, none⟩ = some (.int .u32 R.f8) ∧ wc.cell? ⟨b7, 16, none⟩ = some (.int .i64 0) ∧ wc.cell? ⟨b4, 3, none⟩ = some (.int .i64 o3) ∧ wc.cell? ⟨b5, 3, none⟩ = some (.int .i64 v3) ∧ wc.cell? ⟨b3, 9, none⟩ = some (.int .i64 x.f3.f6) ∧ wc.heap[b7]? = some (.cells C7 43 (0, 0)) ∧ wc.heap[b4]? = some (.cells C4 72 (0, 0)) ∧ wc.heap[b5]? = some (.cells C5 72 (0, 0)) ∧ wc.heap[b3]? = some (.cells C3 43 (0, 0)) ∧ JV wc R A1 c1 ∧ Below w.heap.size w wc))
    case first =>
      as_aux_lemma =>
      go_region_held3 (fun w' => w'.cell? ⟨b7, 0, none⟩ = some (.int .i64 R.f0) ∧ w'.cell? ⟨b7, 1, none⟩ = some (.int .i64 R.f1) ∧ w'.cell? ⟨b7, 2, none⟩ = some (.int .i64 R.f2) ∧ w'.cell? ⟨b7, 3, none⟩ = some (.string R.f3.f0) ∧ w'.cell? ⟨b7, 4, none⟩ = some (.string R.f3.f1) ∧ w'.cell? ⟨b7, 5, none⟩ = some (.string R.f3.f2) ∧ w'.cell? ⟨b7, 6, none⟩ = some (.string R.f3.f3) ∧ w'.cell? ⟨b7, 7, none⟩ = some (.int .i64 R.f3.f4) ∧ w'.cell? ⟨b7, 8, none⟩ = some (.int .i64 R.f3.f5) ∧ w'.cell? ⟨b7, 9, none⟩ = some (.int .i64 R.f3.f6) ∧ w'.cell? ⟨b7, 10, none⟩ = some (.slice A1 R.f3.f7.length c1) ∧ w'.cell? ⟨b7, 11, none⟩ = some (.int .u8 2) ∧ w'.cell? ⟨b7, 12, none⟩ = some (.int .i64 R.f5) ∧ w'.cell? ⟨b7, 13, none⟩ = some (.int .i64 o3) ∧ w'.cell? ⟨b7, 14, none⟩ = some (.int .i64 R.f7) ∧ w'.cell? ⟨b7, 15, none⟩ = some (.int .u32 R.f8) ∧ w'.cell? ⟨b7, 16, none⟩ = some (.int .i64 0) ∧ w'.cell? ⟨b4, 3, none⟩ = some (.int .i64 o3) ∧ w'.cell? ⟨b5, 3, none⟩ = some (.int .i64 v3) ∧ w'.cell? ⟨b3, 9, none⟩ = some (.int .i64 x.f3.f6) ∧ w'.heap[b7]? = some (.cells C7 43 (0, 0)) ∧ w'.heap[b4]? = some (.cells C4 72 (0, 0)) ∧ w'.heap[b5]? = some (.cells C5 72 (0, 0)) ∧ w'.heap[b3]? = some (.cells C3 43 (0, 0)) ∧ JV w' R A1 c1 ∧ Below w.heap.size w w')
        (first | exact EK.keep (w0 := w) (u := (fun k => [.int .i64 R.f0, .int .i64 R.f1, .int .i64 R.f2, .string R.f3.f0, .string R.f3.f1, .string R.f3.f2, .string R.f3.f3, .int .i64 R.f3.f4, .int .i64 R.f3.f5, .int .i64 R.f3.f6, .slice A1 R.f3.f7.length c1, .int .u8 2, .int .i64 R.f5, .int .i64 o3, .int .i64 R.f7, .int .u32 R.f8, .int .i64 0].getD k (.bool false))) (by assumption) (by assumption) | exact EK.keep (w0 := w) (u := (fun k => [.int .i64 R.f0, .int .i64 R.f1, .int .i64 R.f2, .string R.f3.f0, .string R.f3.f1, .string R.f3.f2, .string R.f3.f3, .int .i64 R.f3.f4, .int .i64 R.f3.f5, .int .i64 R.f3.f6, .slice A1 R.f3.f7.length c1, .int .u8 2, .int .i64 R.f5, .int .i64 o3, .int .i64 R.f7, .int .u32 R.f8, .int .i64 0].getD k (.bool false))) (by assumption) (below_drew1 (Below.refl _ _)))
        ((first | (go_at_call 54; refine (hEnd.out _ (EK.jv (w0 := w) (u := (fun k => [.int .i64 R.f0, .int .i64 R.f1, .int .i64 R.f2, .string R.f3.f0, .string R.f3.f1, .string R.f3.f2, .string R.f3.f3, .int .i64 R.f3.f4, .int .i64 R.f3.f5, .int .i64 R.f3.f6, .slice A1 R.f3.f7.length c1, .int .u8 2, .int .i64 R.f5, .int .i64 o3, .int .i64 R.f7, .int .u32 R.f8, .int .i64 0].getD k (.bool false))) (by assumption))).mono ?_; rintro e w9 ⟨rfl, hb9⟩) | (go_at_call 51; refine (hOv.out _).mono ?_; rintro e w9 ⟨rfl, hb9⟩)))
      all_goals
        go_wp2
        go_meet
        case rel => exact ⟨rfl, by assumption⟩
    case rest =>
      as_aux_lemma =>
      clear hS hEnd hOv hq1 hq2
      obtain ⟨rfl, _, _, _, _, _, _, _, _, _, _, _, _, _, _, _, _, _, _, _, _, m20, m21, m22, m23, m24, m25⟩ := hcut
      have K7 : Hid (JBox wc b7 R A1 c1) := Lib.hid (by unfold JBox jobC; rw [r4.out, r6.out, r9.out]; rw [hC7.out] at m20; exact m20)
      have T4 : Hid (wc.heap[b4]? = some (.cells #[.int .u32 o0, .int .u8 o1, .int .i64 o2, .int .i64 o3] 72 (0, 0))) := Lib.hid (by rw [hC4.out] at m21; exact m21)
      have T5 : Hid (wc.heap[b5]? = some (.cells #[.int .u32 v0, .int .u8 v1, .int .i64 v2, .int .i64 v3] 72 (0, 0))) := Lib.hid (by rw [hC5.out] at m22; exact m22)
      have K : Hid (JBox wc b3 x A c) := Lib.hid (by rw [hC3.out] at m23; exact m23)
      have V7 := Lib.hid m24
      have HB := Lib.hid m25
      clear m20 m21 m22 m23 m24 m25 hC7 hC4 hC5 hC3
      have g1 : wc.cell? ⟨b5, 1, none⟩ = some (.int .u8 v1) := (blk_cell T5.out 1).trans rfl
      have g2 : wc.cell? ⟨b5, 2, none⟩ = some (.int .i64 v2) := (blk_cell T5.out 2).trans rfl
      have g3 : wc.cell? ⟨b5, 3, none⟩ = some (.int .i64 v3) := (blk_cell T5.out 3).trans rfl
      have hld := K7.out.load
      go_wp2_with ((with_reducible refine gate_ (.load 43 (.tmp 7)) rfl ?_); refine wl_load 43 (.tmp 7) rfl rfl _ _ rfl hld ?_)
      refine (finish_calls v1 v2 v3 HRj.out A1 c1 _ V7.out).mono ?_
      rintro e w3 ⟨A2, c2, he, hv2, hb⟩
      clear hld g1 g2 g3
      replace K := Lib.hid (K.out.keep hb)
      replace T4 := Lib.hid (blk_below T4.out hb)
      replace T5 := Lib.hid (blk_below T5.out hb)
      replace HB := Lib.hid (below_then HB.out HB.out.size hb)
      clear hb K7 V7
      by_cases hz2 : (finishJ R v1 v2 v3).2 = 0
      · as_aux_lemma =>
        have hg := finish_good (ex := v2) (st := v1) (now2 := v3) HQ.out.1 HQ.out.2.2.2.2 (by rw [← hR.out]; exact hz2)
        rw [← hR.out] at hg
        obtain ⟨⟨D, e2⟩, hp⟩ : ∃ p, p = finishJ R v1 v2 v3 := ⟨_, rfl⟩
        rw [← hp] at he hv2 hz2 hg
        obtain ⟨q1, q2, q3, q4⟩ := hg
        replace hz2 : e2 = 0 := hz2
        subst hz2
        obtain ⟨d9, hd9⟩ : ∃ n, n = D.f9 := ⟨_, rfl⟩
        obtain ⟨d4, hd4⟩ : ∃ n, n = D.f4 := ⟨_, rfl⟩
        replace q3 : ((D.f9 == 0) == (D.f4 != 4)) = true := q3
        replace q4 : overS D.f4 = true := q4
        replace q2 : D.f6 = o3 := q2
        replace q1 : endJ D = v3 := q1
        rw [← hd9, ← hd4] at q3
        rw [← hd4] at q4
        replace he : e = .returned (.tuple #[.agg #[.int .i64 D.f0, .int .i64 D.f1, .int .i64 D.f2, .string D.f3.f0, .string D.f3.f1, .string D.f3.f2, .string D.f3.f3, .int .i64 D.f3.f4, .int .i64 D.f3.f5, .int .i64 D.f3.f6, .slice A2 D.f3.f7.length c2, .int .u8 D.f4, .int .i64 D.f5, .int .i64 D.f6, .int .i64 D.f7, .int .u32 D.f8, .int .i64 D.f9], .int .i64 0]) := he
        rw [q2, ← hd9, ← hd4] at he
        subst he
        have hEnd : Hid (∀ W, JV W D A2 c2 → Calls Try.prog 54 #[.agg #[.int .i64 D.f0, .int .i64 D.f1, .int .i64 D.f2, .string D.f3.f0, .string D.f3.f1, .string D.f3.f2, .string D.f3.f3, .int .i64 D.f3.f4, .int .i64 D.f3.f5, .int .i64 D.f3.f6, .slice A2 D.f3.f7.length c2, .int .u8 d4, .int .i64 D.f5, .int .i64 o3, .int .i64 D.f7, .int .u32 D.f8, .int .i64 d9]] W fun e w' => e = .returned (.int .i64 v3) ∧ Below W.heap.size W w') := Lib.hid (fun W hW => by
          have := end_calls D A2 c2 W hW
          unfold jobV jobC at this
          rw [q2, ← hd9, ← hd4, q1] at this
          exact this)
        have hOv : Hid (∀ W, Calls Try.prog 51 #[.int .u8 d4] W fun e w' => e = .returned (.bool true) ∧ Below W.heap.size W w') := Lib.hid (fun W => by have := over_calls d4 W; rw [q4] at this; exact this)
        have hAw : Hid (∀ W, Calls Try.prog 49 #[] W fun e w' => e = .returned (.bool true) ∧ Below W.heap.size W w') := Lib.hid (fun W => awake18_calls W)
        replace hd9 := Lib.hid hd9
        replace hd4 := Lib.hid hd4
        replace q2 := Lib.hid q2
        clear q1 q4 hp
        go_upto_region 7 with (fail)
        generalize hWD : w3.alloc (.cells _ 43) = W4
        obtain ⟨b9, hb9⟩ : ∃ b, b = w3.heap.size := ⟨_, rfl⟩
        rw [← hb9]
        have K9 : Hid (W4.heap[b9]? = some (.cells #[.int .i64 D.f0, .int .i64 D.f1, .int .i64 D.f2, .string D.f3.f0, .string D.f3.f1, .string D.f3.f2, .string D.f3.f3, .int .i64 D.f3.f4, .int .i64 D.f3.f5, .int .i64 D.f3.f6, .slice A2 D.f3.f7.length c2, .int .u8 d4, .int .i64 D.f5, .int .i64 o3, .int .i64 D.f7, .int .u32 D.f8, .int .i64 d9] 43 (0, 0))) := Lib.hid (by rw [← hWD, hb9]; exact blk_new _ _)
        have hk : Below w3.heap.size w3 W4 := by rw [← hWD]; exact below_alloc (Below.refl _ _) _
        have V9 := Lib.hid (hv2.keep hk)
        replace K := Lib.hid (K.out.keep hk)
        replace T4 := Lib.hid (blk_below T4.out hk)
        replace T5 := Lib.hid (blk_below T5.out hk)
        replace HB := Lib.hid (below_then HB.out HB.out.size hk)
        clear hWD hb9 hk hv2
        obtain ⟨C9, hC9⟩ : ∃ C : Array Value, C = #[.int .i64 D.f0, .int .i64 D.f1, .int .i64 D.f2, .string D.f3.f0, .string D.f3.f1, .string D.f3.f2, .string D.f3.f3, .int .i64 D.f3.f4, .int .i64 D.f3.f5, .int .i64 D.f3.f6, .slice A2 D.f3.f7.length c2, .int .u8 d4, .int .i64 D.f5, .int .i64 o3, .int .i64 D.f7, .int .u32 D.f8, .int .i64 d9] := ⟨_, rfl⟩
        obtain ⟨C4, hC4⟩ : ∃ C : Array Value, C = #[.int .u32 o0, .int .u8 o1, .int .i64 o2, .int .i64 o3] := ⟨_, rfl⟩
        obtain ⟨C5, hC5⟩ : ∃ C : Array Value, C = #[.int .u32 v0, .int .u8 v1, .int .i64 v2, .int .i64 v3] := ⟨_, rfl⟩
        obtain ⟨C3, hC3⟩ : ∃ C : Array Value, C = jobC x A c := ⟨_, rfl⟩
        have hS : W4.cell? ⟨b9, 0, none⟩ = some (.int .i64 D.f0) ∧ W4.cell? ⟨b9, 1, none⟩ = some (.int .i64 D.f1) ∧ W4.cell? ⟨b9, 2, none⟩ = some (.int .i64 D.f2) ∧ W4.cell? ⟨b9, 3, none⟩ = some (.string D.f3.f0) ∧ W4.cell? ⟨b9, 4, none⟩ = some (.string D.f3.f1) ∧ W4.cell? ⟨b9, 5, none⟩ = some (.string D.f3.f2) ∧ W4.cell? ⟨b9, 6, none⟩ = some (.string D.f3.f3) ∧ W4.cell? ⟨b9, 7, none⟩ = some (.int .i64 D.f3.f4) ∧ W4.cell? ⟨b9, 8, none⟩ = some (.int .i64 D.f3.f5) ∧ W4.cell? ⟨b9, 9, none⟩ = some (.int .i64 D.f3.f6) ∧ W4.cell? ⟨b9, 10, none⟩ = some (.slice A2 D.f3.f7.length c2) ∧ W4.cell? ⟨b9, 11, none⟩ = some (.int .u8 d4) ∧ W4.cell? ⟨b9, 12, none⟩ = some (.int .i64 D.f5) ∧ W4.cell? ⟨b9, 13, none⟩ = some (.int .i64 o3) ∧ W4.cell? ⟨b9, 14, none⟩ = some (.int .i64 D.f7) ∧ W4.cell? ⟨b9, 15, none⟩ = some (.int .u32 D.f8) ∧ W4.cell? ⟨b9, 16, none⟩ = some (.int .i64 d9) ∧ W4.cell? ⟨b4, 3, none⟩ = some (.int .i64 o3) ∧ W4.cell? ⟨b5, 3, none⟩ = some (.int .i64 v3) ∧ W4.cell? ⟨b3, 9, none⟩ = some (.int .i64 x.f3.f6) ∧ W4.heap[b9]? = some (.cells C9 43 (0, 0)) ∧ W4.heap[b4]? = some (.cells C4 72 (0, 0)) ∧ W4.heap[b5]? = some (.cells C5 72 (0, 0)) ∧ W4.heap[b3]? = some (.cells C3 43 (0, 0)) ∧ JV W4 D A2 c2 ∧ Below w.heap.size w W4 := by
          rw [hC9, hC4, hC5, hC3]
          exact ⟨(blk_cell K9.out 0).trans rfl, (blk_cell K9.out 1).trans rfl, (blk_cell K9.out 2).trans rfl, (blk_cell K9.out 3).trans rfl, (blk_cell K9.out 4).trans rfl, (blk_cell K9.out 5).trans rfl, (blk_cell K9.out 6).trans rfl, (blk_cell K9.out 7).trans rfl, (blk_cell K9.out 8).trans rfl, (blk_cell K9.out 9).trans rfl, (blk_cell K9.out 10).trans rfl, (blk_cell K9.out 11).trans rfl, (blk_cell K9.out 12).trans rfl, (blk_cell K9.out 13).trans rfl, (blk_cell K9.out 14).trans rfl, (blk_cell K9.out 15).trans rfl, (blk_cell K9.out 16).trans rfl, (blk_cell T4.out 3).trans rfl, (blk_cell T5.out 3).trans rfl, JBox.cell K.out 9 rfl, K9.out, T4.out, T5.out, K.out, V9.out, HB.out⟩
        clear hC9 hC4 hC5 hC3 K T4 T5 K9 V9 HB
        have hs1 : (v3 == v3) = true := beq_self_eq_true v3
        have hs2 : (o3 == o3) = true := beq_self_eq_true o3
        go_upto_region 9 with (fail)
        as_aux_lemma =>
        cases n1 : (d9 == 0) <;> cases n2 : (d4 != 4)
        all_goals
          first
          | (exfalso; rw [n1, n2] at q3; cases q3; done)
          | (go_region_held3 (fun w' => w'.cell? ⟨b9, 0, none⟩ = some (.int .i64 D.f0) ∧ w'.cell? ⟨b9, 1, none⟩ = some (.int .i64 D.f1) ∧ w'.cell? ⟨b9, 2, none⟩ = some (.int .i64 D.f2) ∧ w'.cell? ⟨b9, 3, none⟩ = some (.string D.f3.f0) ∧ w'.cell? ⟨b9, 4, none⟩ = some (.string D.f3.f1) ∧ w'.cell? ⟨b9, 5, none⟩ = some (.string D.f3.f2) ∧ w'.cell? ⟨b9, 6, none⟩ = some (.string D.f3.f3) ∧ w'.cell? ⟨b9, 7, none⟩ = some (.int .i64 D.f3.f4) ∧ w'.cell? ⟨b9, 8, none⟩ = some (.int .i64 D.f3.f5) ∧ w'.cell? ⟨b9, 9, none⟩ = some (.int .i64 D.f3.f6) ∧ w'.cell? ⟨b9, 10, none⟩ = some (.slice A2 D.f3.f7.length c2) ∧ w'.cell? ⟨b9, 11, none⟩ = some (.int .u8 d4) ∧ w'.cell? ⟨b9, 12, none⟩ = some (.int .i64 D.f5) ∧ w'.cell? ⟨b9, 13, none⟩ = some (.int .i64 o3) ∧ w'.cell? ⟨b9, 14, none⟩ = some (.int .i64 D.f7) ∧ w'.cell? ⟨b9, 15, none⟩ = some (.int .u32 D.f8) ∧ w'.cell? ⟨b9, 16, none⟩ = some (.int .i64 d9) ∧ w'.cell? ⟨b4, 3, none⟩ = some (.int .i64 o3) ∧ w'.cell? ⟨b5, 3, none⟩ = some (.int .i64 v3) ∧ w'.cell? ⟨b3, 9, none⟩ = some (.int .i64 x.f3.f6) ∧ w'.heap[b9]? = some (.cells C9 43 (0, 0)) ∧ w'.heap[b4]? = some (.cells C4 72 (0, 0)) ∧ w'.heap[b5]? = some (.cells C5 72 (0, 0)) ∧ w'.heap[b3]? = some (.cells C3 43 (0, 0)) ∧ JV w' D A2 c2 ∧ Below w.heap.size w w')
               (first | exact EK.keep (w0 := w) (u := (fun k => [.int .i64 D.f0, .int .i64 D.f1, .int .i64 D.f2, .string D.f3.f0, .string D.f3.f1, .string D.f3.f2, .string D.f3.f3, .int .i64 D.f3.f4, .int .i64 D.f3.f5, .int .i64 D.f3.f6, .slice A2 D.f3.f7.length c2, .int .u8 d4, .int .i64 D.f5, .int .i64 o3, .int .i64 D.f7, .int .u32 D.f8, .int .i64 d9].getD k (.bool false))) (by assumption) (by assumption) | exact EK.keep (w0 := w) (u := (fun k => [.int .i64 D.f0, .int .i64 D.f1, .int .i64 D.f2, .string D.f3.f0, .string D.f3.f1, .string D.f3.f2, .string D.f3.f3, .int .i64 D.f3.f4, .int .i64 D.f3.f5, .int .i64 D.f3.f6, .slice A2 D.f3.f7.length c2, .int .u8 d4, .int .i64 D.f5, .int .i64 o3, .int .i64 D.f7, .int .u32 D.f8, .int .i64 d9].getD k (.bool false))) (by assumption) (below_drew1 (Below.refl _ _)))
               ((first | (go_at_call 54; refine (hEnd.out _ (EK.jv (w0 := w) (u := (fun k => [.int .i64 D.f0, .int .i64 D.f1, .int .i64 D.f2, .string D.f3.f0, .string D.f3.f1, .string D.f3.f2, .string D.f3.f3, .int .i64 D.f3.f4, .int .i64 D.f3.f5, .int .i64 D.f3.f6, .slice A2 D.f3.f7.length c2, .int .u8 d4, .int .i64 D.f5, .int .i64 o3, .int .i64 D.f7, .int .u32 D.f8, .int .i64 d9].getD k (.bool false))) (by assumption))).mono ?_; rintro e w9 ⟨rfl, hb9⟩) | (go_at_call 51; refine (hOv.out _).mono ?_; rintro e w9 ⟨rfl, hb9⟩) | (go_at_call 49; refine (hAw.out _).mono ?_; rintro e w9 ⟨rfl, hb9⟩)))
             all_goals
               go_wp2
               go_ret
               exact ⟨rfl, EK.below (w0 := w) (u := (fun k => [.int .i64 D.f0, .int .i64 D.f1, .int .i64 D.f2, .string D.f3.f0, .string D.f3.f1, .string D.f3.f2, .string D.f3.f3, .int .i64 D.f3.f4, .int .i64 D.f3.f5, .int .i64 D.f3.f6, .slice A2 D.f3.f7.length c2, .int .u8 d4, .int .i64 D.f5, .int .i64 o3, .int .i64 D.f7, .int .u32 D.f8, .int .i64 d9].getD k (.bool false))) (by assumption)⟩)
      · as_aux_lemma =>
        have hd := finish_bad (ex := v2) (st := v1) (now2 := v3) HQ.out.1 HQ.out.2.1 HQ.out.2.2.1 HQ.out.2.2.2.1 HQ.out.2.2.2.2 (by rw [← hR.out]; exact hz2)
        obtain ⟨⟨x1, e1⟩, hp⟩ : ∃ p, p = finishJ R v1 v2 v3 := ⟨_, rfl⟩
        rw [← hp] at he hv2 hz2
        replace he : e = .returned (.tuple #[.agg #[.int .i64 x1.f0, .int .i64 x1.f1, .int .i64 x1.f2, .string x1.f3.f0, .string x1.f3.f1, .string x1.f3.f2, .string x1.f3.f3, .int .i64 x1.f3.f4, .int .i64 x1.f3.f5, .int .i64 x1.f3.f6, .slice A2 x1.f3.f7.length c2, .int .u8 x1.f4, .int .i64 x1.f5, .int .i64 x1.f6, .int .i64 x1.f7, .int .u32 x1.f8, .int .i64 x1.f9], .int .i64 e1]) := he
        subst he
        replace hz2 : ¬ e1 = 0 := hz2
        have hz1 : (e1 != 0) = true := bne_iff_ne.2 hz2
        have hz3 : (e1 == 0) = false := beq_eq_false_iff_ne.2 hz2
        clear hp hv2 hz2 K HRj
        replace hd := Lib.hid hd
        go_upto_region 7 with (fail)
        generalize hWD : w3.alloc (.cells _ 43) = W4
        have hk : Below w3.heap.size w3 W4 := by rw [← hWD]; exact below_alloc (Below.refl _ _) _
        replace T4 := Lib.hid (blk_below T4.out hk)
        replace T5 := Lib.hid (blk_below T5.out hk)
        replace HB := Lib.hid (below_then HB.out HB.out.size hk)
        clear hWD hk
        have g1 : W4.cell? ⟨b5, 1, none⟩ = some (.int .u8 v1) := (blk_cell T5.out 1).trans rfl
        go_wp2_with fail
        refine (over_calls v1 _).mono ?_
        rintro e w5 ⟨rfl, hb⟩
        replace T4 := Lib.hid (blk_below T4.out hb)
        replace T5 := Lib.hid (blk_below T5.out hb)
        replace HB := Lib.hid (below_then HB.out HB.out.size hb)
        clear hb g1
        have g1 : w5.cell? ⟨b5, 1, none⟩ = some (.int .u8 v1) := (blk_cell T5.out 1).trans rfl
        have g3 : w5.cell? ⟨b5, 3, none⟩ = some (.int .i64 v3) := (blk_cell T5.out 3).trans rfl
        have g4 : w5.cell? ⟨b4, 3, none⟩ = some (.int .i64 o3) := (blk_cell T4.out 3).trans rfl
        clear T4 T5
        have hd2 : Hid (overS v1 = true → (v1 == 8) = false → decide (v3 < o3) = false → decide (1099511627776 < v3) = true) := Lib.hid (fun a1 a2 a3 => by
          have a4 := beq_eq_false_iff_ne.1 a2
          have a5 := of_decide_eq_false a3
          refine decide_eq_true ?_
          rcases hd.out with h | h | h | h
          · rw [a1] at h; cases h
          · exact absurd h a4
          · exact absurd h a5
          · exact h)
        clear hd
        generalize overS v1 = ov at hd2 ⊢
        cases ov with
        | false =>
          clear hd2
          go_wp2_with fail
          refine (awake18_calls _).mono ?_
          rintro e w6 ⟨rfl, hb⟩
          replace HB := Lib.hid (below_then HB.out HB.out.size hb)
          clear hb
          go_wp2
          go_ret
          exact ⟨rfl, HB.out⟩
        | true =>
          cases n1 : (v1 == 8) with
          | true =>
            clear hd2
            go_wp2_with fail
            refine (awake18_calls _).mono ?_
            rintro e w6 ⟨rfl, hb⟩
            replace HB := Lib.hid (below_then HB.out HB.out.size hb)
            clear hb
            go_wp2
            go_ret
            exact ⟨rfl, HB.out⟩
          | false =>
            cases n2 : decide (v3 < o3) with
            | true =>
              clear hd2
              go_wp2_with fail
              refine (awake18_calls _).mono ?_
              rintro e w6 ⟨rfl, hb⟩
              replace HB := Lib.hid (below_then HB.out HB.out.size hb)
              clear hb
              go_wp2
              go_ret
              exact ⟨rfl, HB.out⟩
            | false =>
              have n3 := hd2.out rfl n1 n2
              clear hd2
              go_wp2_with fail
              refine (awake18_calls _).mono ?_
              rintro e w6 ⟨rfl, hb⟩
              replace HB := Lib.hid (below_then HB.out HB.out.size hb)
              clear hb
              go_wp2
              go_ret
              exact ⟨rfl, HB.out⟩
  · as_aux_lemma =>
    obtain ⟨⟨x1, e1⟩, hp⟩ : ∃ p, p = beginJ x o0 o3 := ⟨_, rfl⟩
    rw [← hp] at he hv1 hz
    replace he : e = .returned (.tuple #[.agg #[.int .i64 x1.f0, .int .i64 x1.f1, .int .i64 x1.f2, .string x1.f3.f0, .string x1.f3.f1, .string x1.f3.f2, .string x1.f3.f3, .int .i64 x1.f3.f4, .int .i64 x1.f3.f5, .int .i64 x1.f3.f6, .slice A1 x1.f3.f7.length c1, .int .u8 x1.f4, .int .i64 x1.f5, .int .i64 x1.f6, .int .i64 x1.f7, .int .u32 x1.f8, .int .i64 x1.f9], .int .i64 e1]) := he
    subst he
    replace hz : ¬ e1 = 0 := hz
    have hz1 : (e1 != 0) = true := bne_iff_ne.2 hz
    have hz2 : (e1 == 0) = false := beq_eq_false_iff_ne.2 hz
    clear hp hv1 HX HO HV T4 T5 K hz
    go_upto_region 2 with (fail)
    generalize hWD : w1.alloc (.cells _ 43) = W2
    have hk : Below w1.heap.size w1 W2 := by rw [← hWD]; exact below_alloc (Below.refl _ _) _
    replace HB := Lib.hid (below_then HB.out HB.out.size (below_then hb hb.size hk))
    clear hWD hb hk
    go_wp2_with fail
    refine (awake18_calls _).mono ?_
    rintro e w3 ⟨rfl, hb⟩
    replace HB := Lib.hid (below_then HB.out HB.out.size hb)
    clear hb
    go_wp2
    go_ret
    exact ⟨rfl, HB.out⟩
end Go.Proofs.Ythcikldhlohjbaa.PJ
