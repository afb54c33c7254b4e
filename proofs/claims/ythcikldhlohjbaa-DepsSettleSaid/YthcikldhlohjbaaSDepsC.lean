/- deps.ask's closure, deps.Holds, deps.Never. -/
import Derived.Test.YthcikldhlohjbaaSDepsB
import Derived.Laws.EntriesVeiled
set_option linter.unusedVariables false
set_option linter.unusedSimpArgs false
namespace Go.Proofs.Ythcikldhlohjbaa.PS
open Go.RowKit Go.Proofs.YthcikldhlohjbaaW.PrintWords Go.Proofs.YthcikldhlohjbaaW.PrintLast Go.Proofs.YthcikldhlohjbaaW.PrintMore
def isId (id : Int) (x : S43) : Bool := decide (x.f0 = id)
/-- The state of the first job of this id. -/
def stateAt (jobs : List S43) (id : Int) : Int := (rd_T43 jobs (idxOf jobs (isId id))).f4
def over (s : Int) : Bool := decide (3 ≤ s ∧ s ≤ 8)
/-- How far a dependency is: 0 open, 1 it holds, 2 it never will. -/
def verdict (jobs : List S43) (d0 d1 : Int) : Int :=
  if jobs.any (isId d1) = false ∨ d0 < 1 ∨ 3 < d0 then 2
  else if over (stateAt jobs d1) = false then 0
  else if d0 = 3 then (if stateAt jobs d1 = 3 then 2 else 1)
  else if d0 = 2 then (if stateAt jobs d1 = 3 then 1 else 2)
  else 1
theorem idxOf_some {α : Type} {l : List α} {p : α → Bool} (h : l.any p = true) : ∃ j : Nat, j < l.length ∧ idxOf l p = j := by
  refine ⟨l.findIdx p, List.findIdx_lt_length_of_exists (by simpa using h), ?_⟩
  unfold idxOf
  rw [if_pos h]

theorem over_calls (s : Int) (w : World) : Calls Try.prog 51 #[.int .u8 s] w fun e w' => e = .returned (.bool (over s)) ∧ w = w' := by
  unfold over
  by_cases h1 : 3 ≤ s <;> by_cases h2 : s ≤ 8
  all_goals
    go_enter Try.func51, Try.ntmps51
    go_wp2
    go_ret
    exact ⟨by simp [h1, h2], rfl⟩

theorem job_state {w : World} {A : Option Addr} {n : Nat} {l : List S43} (h : Kd.C k43 w A n l) (j : Nat) (hj : j < l.length) : ∃ ad, A = some ad ∧ w.cell? ⟨(ad.add (j * 17)).block, (ad.add (j * 17)).off + 11, none⟩ = some (.int .u8 l[j].f4) := by
  obtain ⟨ad, B, e, e1, h1⟩ := at_T43 h (j : Int) (by omega) (by have := h.1; omega)
  have HE : rd_T43 l j = l[j] := by unfold rd_T43; simp [List.getD, hj]
  rw [HE, Int.toNat_natCast] at h1
  exact ⟨ad, e1, h1.2.2.2.2.2.2.2.2.2.2.2.1⟩

set_option maxRecDepth 100000 in
set_option maxHeartbeats 2000000 in
theorem ask_calls (jobs : List S43) (A : Option Addr) (c : Nat) (d0 d1 : Int) (b : Nat) (w : World) (hr : Kd.C k43 w A jobs.length jobs) (hc : jobs.length ≤ c) (hb : w.cell? ⟨b, 0, none⟩ = some (.slice A jobs.length c)) :
    Calls Try.prog 103 #[.agg #[.int .u8 d0, .int .i64 d1], .pointer (some ⟨b, 0, none⟩)] w fun e w' => e = .returned (.int .u8 (verdict jobs d0 d1)) ∧ Below w.heap.size w w' := by
  have ho : ∀ o, (w.alloc o).cell? ⟨b, 0, none⟩ = some (.slice A jobs.length c) := fun o => ((below_alloc (Below.refl _ w) o).cell (World.block_lt_of_cell? w _ hb)).trans hb
  have HR := Lib.hid hr
  have HH := Lib.hid hc
  have HB := Lib.hid hb
  clear hr hc hb
  go_enter Try.func103, Try.ntmps103
  go_wp2_with fail
  refine (find_calls jobs A c d1 _ (Kd.C_alloc HR.out _) HH.out).mono ?_
  rintro e w1 ⟨rfl, hb1⟩
  have hd0 : w1.cell? ⟨w.heap.size, 0, none⟩ = some (.int .u8 d0) := (hb1.cell (new_lt _ _)).trans (by simp [go_sem])
  have HB1 := Lib.hid (below_then (below_alloc (Below.refl _ w) _) (below_alloc (Below.refl _ w) _).size hb1)
  have hj : w1.cell? ⟨b, 0, none⟩ = some (.slice A jobs.length c) := (HB1.out.cell (World.block_lt_of_cell? w _ HB.out)).trans HB.out
  clear hb1 ho
  have hlow : ∀ j : Nat, max (j : Int) 0 = j := fun j => by omega
  change Hid _ at HB1
  cases ha : jobs.any (isId d1) with
  | false =>
    have hv : Hid (verdict jobs d0 d1 = 2) := Lib.hid (by unfold verdict; rw [ha]; simp)
    obtain ⟨i, hi⟩ : ∃ i, i = max (idxOf jobs fun x => decide (x.f0 = d1)) 0 := ⟨_, rfl⟩
    rw [← hi, show (jobs.any fun x => decide (x.f0 = d1)) = false from ha]
    clear hi ha
    go_wp2
    go_ret
    exact ⟨by rw [hv.out]; rfl, HB1.out⟩
  | true =>
    obtain ⟨j, hj1, hj2⟩ := idxOf_some ha
    rw [show idxOf jobs (fun x => decide (x.f0 = d1)) = (j : Int) from hj2, hlow j, show (jobs.any fun x => decide (x.f0 = d1)) = true from ha]
    by_cases h1 : d0 < 1
    · have hv : Hid (verdict jobs d0 d1 = 2) := Lib.hid (by unfold verdict; simp [h1])
      clear ha hj2
      go_wp2
      go_ret
      exact ⟨by rw [hv.out]; rfl, HB1.out⟩
    by_cases h2 : 3 < d0
    · have hv : Hid (verdict jobs d0 d1 = 2) := Lib.hid (by unfold verdict; simp [h2])
      clear ha hj2
      go_wp2
      go_ret
      exact ⟨by rw [hv.out]; rfl, HB1.out⟩
    have hS : stateAt jobs d1 = jobs[j].f4 := by unfold stateAt rd_T43; rw [hj2]; simp [List.getD, hj1]
    have hv : Hid (verdict jobs d0 d1 = if over jobs[j].f4 = false then 0 else if d0 = 3 then (if jobs[j].f4 = 3 then 2 else 1) else if d0 = 2 then (if jobs[j].f4 = 3 then 1 else 2) else 1) := Lib.hid (by unfold verdict; rw [hS, ha]; simp [h1, h2])
    have p1 : 0 ≤ (j : Int) := by omega
    have q1 : (j : Int) < (jobs.length : Int) := by omega
    obtain ⟨ad, e1, hx⟩ := job_state HR.out j hj1
    cases e1
    replace hx := (HB1.out.cell (World.block_lt_of_cell? w _ hx)).trans hx
    clear ha hj2 hS
    obtain ⟨s, hs⟩ : ∃ s, s = jobs[j].f4 := ⟨_, rfl⟩
    rw [← hs] at hx hv
    clear hs
    go_wp2_with fail
    refine (over_calls s _).mono ?_
    rintro e _ ⟨rfl, rfl⟩
    cases hov : over s with
    | false =>
      rw [hov] at hv
      clear hov
      go_wp2
      go_ret
      exact ⟨by rw [hv.out]; rfl, HB1.out⟩
    | true =>
      rw [hov] at hv
      clear hov
      by_cases h3 : d0 = 3
      · subst h3
        by_cases h4 : s = 3
        · subst h4
          go_wp2
          go_ret
          exact ⟨by rw [hv.out]; simp, HB1.out⟩
        · have hb4 : (s == 3) = false := by simpa using h4
          go_wp2
          go_ret
          exact ⟨by rw [hv.out]; simp [h4], HB1.out⟩
      · by_cases h5 : d0 = 2
        · subst h5
          by_cases h4 : s = 3
          · subst h4
            go_wp2
            go_ret
            exact ⟨by rw [hv.out]; simp, HB1.out⟩
          · have hb4 : (s == 3) = false := by simpa using h4
            go_wp2
            go_ret
            exact ⟨by rw [hv.out]; simp [h4], HB1.out⟩
        · have hb5 : (d0 == 2) = false := by simpa using h5
          have hb3 : (d0 == 3) = false := by simpa using h3
          go_wp2
          go_ret
          exact ⟨by rw [hv.out]; simp [h3, h5], HB1.out⟩

set_option maxRecDepth 100000 in
theorem holds1_calls (jobs : List S43) (A : Option Addr) (c : Nat) (d0 d1 : Int) (b b1 : Nat) (w : World) (hr : Kd.C k43 w A jobs.length jobs) (hc : jobs.length ≤ c) (hb : w.cell? ⟨b, 0, none⟩ = some (.slice A jobs.length c)) (hb1 : w.cell? ⟨b1, 0, none⟩ = some (.func (.func 103) #[] #[.pointer (some ⟨b, 0, none⟩)])) :
    Calls Try.prog 76 #[.agg #[.int .u8 d0, .int .i64 d1], .pointer (some ⟨b1, 0, none⟩)] w fun e w' => e = .returned (.bool (decide (verdict jobs d0 d1 ≠ 1))) ∧ Below w.heap.size w w' := by
  have he : ∀ args w, (callFunc 103 args).run Try.prog w = .ok (.enter 103 args) w := enters_of Try.func103 (by kernel_rfl) rfl
  have ho : ∀ o, (w.alloc o).cell? ⟨b1, 0, none⟩ = some (.func (.func 103) #[] #[.pointer (some ⟨b, 0, none⟩)]) := fun o => ((below_alloc (Below.refl _ w) o).cell (World.block_lt_of_cell? w _ hb1)).trans hb1
  have HA := Lib.hid fun w' (h : Below w.heap.size w w') => ask_calls jobs A c d0 d1 b w' (Kd.C_below hr h) hc ((h.cell (World.block_lt_of_cell? w _ hb)).trans hb)
  clear hr hc hb hb1
  go_enter Try.func76, Try.ntmps76
  go_wp2_with fail
  refine (HA.out _ (below_alloc (Below.refl _ w) _)).mono ?_
  rintro e w1 ⟨rfl, hb1⟩
  have HB1 := Lib.hid (below_then (below_alloc (Below.refl _ w) _) (below_alloc (Below.refl _ w) _).size hb1)
  clear hb1 HA
  obtain ⟨v, hv⟩ : ∃ v, v = verdict jobs d0 d1 := ⟨_, rfl⟩
  rw [← hv]
  replace hv := Lib.hid hv
  by_cases h : v = 1
  · subst h
    go_wp2
    go_ret
    exact ⟨by rw [← hv.out]; rfl, HB1.out⟩
  · have hb4 : (v == 1) = false := by simpa using h
    go_wp2
    go_ret
    exact ⟨by rw [← hv.out]; simp [h], HB1.out⟩
set_option maxRecDepth 100000 in
theorem never1_calls (jobs : List S43) (A : Option Addr) (c : Nat) (d0 d1 : Int) (b b1 : Nat) (w : World) (hr : Kd.C k43 w A jobs.length jobs) (hc : jobs.length ≤ c) (hb : w.cell? ⟨b, 0, none⟩ = some (.slice A jobs.length c)) (hb1 : w.cell? ⟨b1, 0, none⟩ = some (.func (.func 103) #[] #[.pointer (some ⟨b, 0, none⟩)])) :
    Calls Try.prog 78 #[.agg #[.int .u8 d0, .int .i64 d1], .pointer (some ⟨b1, 0, none⟩)] w fun e w' => e = .returned (.bool (decide (verdict jobs d0 d1 = 2))) ∧ Below w.heap.size w w' := by
  have he : ∀ args w, (callFunc 103 args).run Try.prog w = .ok (.enter 103 args) w := enters_of Try.func103 (by kernel_rfl) rfl
  have ho : ∀ o, (w.alloc o).cell? ⟨b1, 0, none⟩ = some (.func (.func 103) #[] #[.pointer (some ⟨b, 0, none⟩)]) := fun o => ((below_alloc (Below.refl _ w) o).cell (World.block_lt_of_cell? w _ hb1)).trans hb1
  have HA := Lib.hid fun w' (h : Below w.heap.size w w') => ask_calls jobs A c d0 d1 b w' (Kd.C_below hr h) hc ((h.cell (World.block_lt_of_cell? w _ hb)).trans hb)
  clear hr hc hb hb1
  go_enter Try.func78, Try.ntmps78
  go_wp2_with fail
  refine (HA.out _ (below_alloc (Below.refl _ w) _)).mono ?_
  rintro e w1 ⟨rfl, hb1⟩
  have HB1 := Lib.hid (below_then (below_alloc (Below.refl _ w) _) (below_alloc (Below.refl _ w) _).size hb1)
  clear hb1 HA
  obtain ⟨v, hv⟩ : ∃ v, v = verdict jobs d0 d1 := ⟨_, rfl⟩
  rw [← hv]
  replace hv := Lib.hid hv
  by_cases h : v = 2
  · subst h
    go_wp2
    go_ret
    exact ⟨by rw [← hv.out]; rfl, HB1.out⟩
  · have hb4 : (v == 2) = false := by simpa using h
    go_wp2
    go_ret
    exact ⟨by rw [← hv.out]; simp [h], HB1.out⟩

/-- Do all hold? -/
def depsHolds (l : List S104) (jobs : List S43) : Bool := !(l.any fun d => decide (verdict jobs d.f0 d.f1 ≠ 1))
def depsNever (l : List S104) (jobs : List S43) : Bool := l.any fun d => decide (verdict jobs d.f0 d.f1 = 2)
set_option maxRecDepth 100000 in
theorem ask_make (A : Option Addr) (n c : Nat) (w : World) : Calls Try.prog 74 #[.slice A n c] w fun e w' => ∃ b, e = .returned (.func (.func 103) #[] #[.pointer (some ⟨b, 0, none⟩)]) ∧ w.heap.size ≤ b ∧ w'.cell? ⟨b, 0, none⟩ = some (.slice A n c) ∧ Below w.heap.size w w' := by
  have hmf : ∀ (fn : Fn) (first cap : Array Value) (w : World), (Instr.makeFunc fn first cap).run Try.prog w = .ok (.func fn first cap) w := fun _ _ _ _ => rfl
  go_enter Try.func74, Try.ntmps74
  go_wp2
  go_ret
  exact ⟨_, rfl, Nat.le_refl _, new_one _ _ _, below_alloc (Below.refl _ _) _⟩

set_option maxRecDepth 100000 in
theorem holds_calls (l : List S104) (A0 : Option Addr) (c0 : Nat) (jobs : List S43) (A1 : Option Addr) (c1 : Nat) (w : World) (hr0 : Kd.C k104 w A0 l.length l) (hc0 : l.length ≤ c0) (hr1 : Kd.C k43 w A1 jobs.length jobs) (hc1 : jobs.length ≤ c1) :
    Calls Try.prog 19 #[.slice A0 l.length c0, .slice A1 jobs.length c1] w fun e w' => e = .returned (.bool (depsHolds l jobs)) ∧ Below w.heap.size w w' := by
  have he : ∀ args w, (callFunc 76 args).run Try.prog w = .ok (.enter 76 args) w := enters_of Try.func76 (by kernel_rfl) rfl
  have hmf : ∀ (fn : Fn) (first cap : Array Value) (w : World), (Instr.makeFunc fn first cap).run Try.prog w = .ok (.func fn first cap) w := fun _ _ _ _ => rfl
  have HR := Lib.hid fun (W : World) (hW : Below w.heap.size w W) (b b1 : Nat) (hb : W.cell? ⟨b, 0, none⟩ = some (.slice A1 jobs.length c1)) (hb1 : W.cell? ⟨b1, 0, none⟩ = some (.func (.func 103) #[] #[.pointer (some ⟨b, 0, none⟩)])) =>
    dep_contains l A0 c0 W 76 #[.pointer (some ⟨b1, 0, none⟩)] (fun d => decide (verdict jobs d.f0 d.f1 ≠ 1)) (Kd.C_below hr0 hW) hc0 he (fun x _ w' hb' => holds1_calls jobs A1 c1 x.f0 x.f1 b b1 w' (Kd.C_below hr1 (below_then hW hW.size hb')) hc1 ((hb'.cell (World.block_lt_of_cell? W _ hb)).trans hb) ((hb'.cell (World.block_lt_of_cell? W _ hb1)).trans hb1))
  have HM := Lib.hid (ask_make A1 jobs.length c1)
  clear hr0 hc0 hr1 hc1 he
  go_enter Try.func19, Try.ntmps19
  go_wp2_with fail
  refine (HM.out _).mono ?_
  rintro e w1 ⟨b, rfl, hle, hb, hb1⟩
  go_wp2_with fail
  refine (HR.out _ (below_alloc hb1 _) b w1.heap.size (((below_alloc (Below.refl _ w1) _).cell (World.block_lt_of_cell? w1 _ hb)).trans hb) (new_one _ _ _)).mono ?_
  rintro e w2 ⟨rfl, hb2⟩
  have HB := Lib.hid (below_then (below_alloc hb1 (.cells #[.func (.func 103) #[] #[.pointer (some ⟨b, 0, none⟩)]] 108)) (below_alloc hb1 (.cells #[.func (.func 103) #[] #[.pointer (some ⟨b, 0, none⟩)]] 108)).size hb2)
  clear hb hb1 hb2 HR HM hle
  obtain ⟨t, ht⟩ : ∃ t, t = l.any fun d => decide (verdict jobs d.f0 d.f1 ≠ 1) := ⟨_, rfl⟩
  have HV : Hid (depsHolds l jobs = !t) := Lib.hid (by unfold depsHolds; rw [ht])
  rw [← ht]
  clear ht
  cases t <;>
    · go_wp2
      go_ret
      exact ⟨by rw [HV.out]; rfl, HB.out⟩
set_option maxRecDepth 100000 in
theorem never_calls (l : List S104) (A0 : Option Addr) (c0 : Nat) (jobs : List S43) (A1 : Option Addr) (c1 : Nat) (w : World) (hr0 : Kd.C k104 w A0 l.length l) (hc0 : l.length ≤ c0) (hr1 : Kd.C k43 w A1 jobs.length jobs) (hc1 : jobs.length ≤ c1) :
    Calls Try.prog 21 #[.slice A0 l.length c0, .slice A1 jobs.length c1] w fun e w' => e = .returned (.bool (depsNever l jobs)) ∧ Below w.heap.size w w' := by
  have he : ∀ args w, (callFunc 78 args).run Try.prog w = .ok (.enter 78 args) w := enters_of Try.func78 (by kernel_rfl) rfl
  have hmf : ∀ (fn : Fn) (first cap : Array Value) (w : World), (Instr.makeFunc fn first cap).run Try.prog w = .ok (.func fn first cap) w := fun _ _ _ _ => rfl
  have HR := Lib.hid fun (W : World) (hW : Below w.heap.size w W) (b b1 : Nat) (hb : W.cell? ⟨b, 0, none⟩ = some (.slice A1 jobs.length c1)) (hb1 : W.cell? ⟨b1, 0, none⟩ = some (.func (.func 103) #[] #[.pointer (some ⟨b, 0, none⟩)])) =>
    dep_contains l A0 c0 W 78 #[.pointer (some ⟨b1, 0, none⟩)] (fun d => decide (verdict jobs d.f0 d.f1 = 2)) (Kd.C_below hr0 hW) hc0 he (fun x _ w' hb' => never1_calls jobs A1 c1 x.f0 x.f1 b b1 w' (Kd.C_below hr1 (below_then hW hW.size hb')) hc1 ((hb'.cell (World.block_lt_of_cell? W _ hb)).trans hb) ((hb'.cell (World.block_lt_of_cell? W _ hb1)).trans hb1))
  have HM := Lib.hid (ask_make A1 jobs.length c1)
  clear hr0 hc0 hr1 hc1 he
  go_enter Try.func21, Try.ntmps21
  go_wp2_with fail
  refine (HM.out _).mono ?_
  rintro e w1 ⟨b, rfl, hle, hb, hb1⟩
  go_wp2_with fail
  refine (HR.out _ (below_alloc hb1 _) b w1.heap.size (((below_alloc (Below.refl _ w1) _).cell (World.block_lt_of_cell? w1 _ hb)).trans hb) (new_one _ _ _)).mono ?_
  rintro e w2 ⟨rfl, hb2⟩
  have HB := Lib.hid (below_then (below_alloc hb1 (.cells #[.func (.func 103) #[] #[.pointer (some ⟨b, 0, none⟩)]] 108)) (below_alloc hb1 (.cells #[.func (.func 103) #[] #[.pointer (some ⟨b, 0, none⟩)]] 108)).size hb2)
  clear hb hb1 hb2 HR HM hle
  obtain ⟨t, ht⟩ : ∃ t, t = l.any fun d => decide (verdict jobs d.f0 d.f1 = 2) := ⟨_, rfl⟩
  have HV : Hid (depsNever l jobs = t) := Lib.hid (by unfold depsNever; rw [ht])
  rw [← ht]
  clear ht
  cases t <;>
    · go_wp2
      go_ret
      exact ⟨by rw [HV.out]; rfl, HB.out⟩
end Go.Proofs.Ythcikldhlohjbaa.PS
