/- job.Begin, Finish, Make, End, with a job held as one value. (A part of the print PJ.) -/
import Derived.Test.YthcikldhlohjbaaSJobR
set_option linter.unusedVariables false
set_option linter.unusedSimpArgs false
namespace Go.Proofs.Ythcikldhlohjbaa.PS.Jb
open Go.RowKit Go.Proofs.YthcikldhlohjbaaW.PrintWords Go.Proofs.YthcikldhlohjbaaW.PrintLast Go.Proofs.YthcikldhlohjbaaW.PrintMore Go.Proofs.Ythcikldhlohjbaa.Ones
def u32ok (n : Int) : Prop := 0 ≤ n ∧ n < 4294967296
/-- A job that the model can hold. -/
def JOk (x : S43) : Prop := u32ok x.f8 ∧ x.f3.f7.length < 8796093022208
/-- A job's value, and what it reads. -/
def JV (w : World) (x : S43) (A : Option Addr) (c : Nat) : Prop := x.f3.f7.length ≤ c ∧ Kd.C k104 w A x.f3.f7.length x.f3.f7
theorem JV.keep {w w' : World} {x : S43} {A : Option Addr} {c : Nat} (h : JV w x A c) (hb : Below w.heap.size w w') : JV w' x A c := ⟨h.1, Kd.C_below h.2 hb⟩
theorem JV.like {w : World} {x y : S43} {A : Option Addr} {c : Nat} (h : JV w x A c) (hy : y.f3.f7 = x.f3.f7) : JV w y A c := by unfold JV at *; rw [hy]; exact h
def beginJ (x : S43) (on now : Int) : S43 × Int :=
  if rightJ x = true ∧ ones on = x.f3.f4 ∧ x.f5 ≤ now ∧ now ≤ 1099511627776 then (if x.f4 = 1 then ({ x with f4 := 2, f6 := now, f8 := on }, 0) else (z43, 180)) else (z43, 2)
def nextL (s : Int) : List Int := if s = 1 then [6, 8] else if s = 2 then [3, 4, 5, 6, 7] else []
def overS (s : Int) : Bool := decide (3 ≤ s ∧ s ≤ 8)
def finishJ (x : S43) (st ex now : Int) : S43 × Int :=
  if rightJ x = true ∧ (max x.f5 x.f6 ≤ now ∨ overS x.f4 = true) ∧ x.f5 ≤ now ∧ now ≤ 1099511627776 then
    (if st ∈ nextL x.f4 then ({ x with f4 := st, f7 := now, f9 := if st = 4 then (if ex = 0 then 1 else ex) else x.f9 }, 0) else (z43, 180)) else (z43, 2)
def endJ (x : S43) : Int := if x.f4 = 2 then wrap64 (x.f6 + x.f3.f6) else if overS x.f4 = true then x.f7 else 0
theorem over_f (s : Int) : job_Over.f s = some (overS s) := by
  unfold job_Over.f overS
  by_cases h : s ≥ 3
  · rw [if_pos h, Option.some.injEq, decide_eq_decide]; omega
  · rw [if_neg h, Option.some.injEq, eq_comm, decide_eq_false_iff_not]; omega
theorem next_f (s : Int) : job_next.f s = some (nextL s) := by
  unfold job_next.f nextL
  repeat' split
  all_goals rfl
theorem contains_f (s st : Int) : api_JobState_79.f 9 (nextL s) st = some (decide (st ∈ nextL s)) := by
  unfold api_JobState_79.f api_JobState_108.f nextL
  by_cases h1 : s = 1
  · rw [if_pos h1]
    by_cases a : st = 6
    · subst a; decide +kernel
    · by_cases b : st = 8
      · subst b; decide +kernel
      · simp [api_JobState_108.l0, rd, wrap64, a, b]
  · rw [if_neg h1]
    by_cases h2 : s = 2
    · rw [if_pos h2]
      by_cases a : st = 3
      · subst a; decide +kernel
      · by_cases b : st = 4
        · subst b; decide +kernel
        · by_cases c : st = 5
          · subst c; decide +kernel
          · by_cases d : st = 6
            · subst d; decide +kernel
            · by_cases e : st = 7
              · subst e; decide +kernel
              · simp [api_JobState_108.l0, rd, wrap64, a, b, c, d, e]
    · rw [if_neg h2]
      rfl
theorem open_R {w : World} {base : Nat} {ok : Nat → Prop} {v : Value} {l : List S104} (h : Kd.R k104 104 w base ok v l) : ∃ A c, v = .slice A l.length c ∧ l.length ≤ c ∧ Kd.C k104 w A l.length l := by
  obtain ⟨A, c, rfl⟩ := Kd.R_slice h
  exact ⟨A, c, rfl, (Kd.R_reads' h).2.1, (Kd.R_reads' h).2.2⟩
theorem over_calls (s : Int) (w : World) : Calls Try.prog 51 #[.int .u8 s] w fun e w' => e = .returned (.bool (overS s)) ∧ Below w.heap.size w w' := by
  refine (job_Over.calls s _ w (over_f s)).mono ?_
  rintro e w' ⟨h, hd⟩
  exact ⟨h, hd.below⟩
end Go.Proofs.Ythcikldhlohjbaa.PS.Jb
