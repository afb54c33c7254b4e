/- deps.Holds, deps.Never: closures over job.Find. -/
import Derived.Test.YthcikldhlohjbaaSDeps
import Derived.Shelf.Abstract
set_option linter.unusedVariables false
set_option linter.unusedSimpArgs false
namespace Go.Proofs.Ythcikldhlohjbaa.PS
open Go.RowKit Go.Proofs.YthcikldhlohjbaaW.PrintWords Go.Proofs.YthcikldhlohjbaaW.PrintLast Go.Proofs.YthcikldhlohjbaaW.PrintMore
set_option maxRecDepth 100000 in
theorem find1_calls (x : S43) (B : Option Addr) (e : Nat) (b : Nat) (id : Int) (w : World) (h : w.cell? ⟨b, 0, none⟩ = some (.int .i64 id)) :
    Calls Try.prog 115 #[jobV x B e, .pointer (some ⟨b, 0, none⟩)] w fun e w' => e = .returned (.bool (decide (x.f0 = id))) ∧ Below w.heap.size w w' := by
  unfold jobV
  have ho : ∀ o, (w.alloc o).cell? ⟨b, 0, none⟩ = some (.int .i64 id) := fun o => ((below_alloc (Below.refl _ w) o).cell (World.block_lt_of_cell? w _ h)).trans h
  have HB := Lib.hid fun o => below_alloc (Below.refl w.heap.size w) o
  go_enter Try.func115, Try.ntmps115
  go_wp2
  go_ret
  exact ⟨rfl, HB.out _⟩

theorem max0 (i : Int) : max i 0 = if 0 ≤ i then i else 0 := by split <;> omega
set_option maxRecDepth 100000 in
theorem find_calls (l : List S43) (A : Option Addr) (c : Nat) (id : Int) (w : World) (hr : Kd.C k43 w A l.length l) (hc : l.length ≤ c) :
    Calls Try.prog 104 #[.slice A l.length c, .int .i64 id] w fun e w' => e = .returned (.tuple #[.int .i64 (max (idxOf l fun x => decide (x.f0 = id)) 0), .bool (l.any fun x => decide (x.f0 = id))]) ∧ Below w.heap.size w w' := by
  have he : ∀ args w, (callFunc 115 args).run Try.prog w = .ok (.enter 115 args) w := enters_of Try.func115 (by kernel_rfl) rfl
  have hmf : ∀ (fn : Fn) (first cap : Array Value) (w : World), (Instr.makeFunc fn first cap).run Try.prog w = .ok (.func fn first cap) w := fun _ _ _ _ => rfl
  have HR := Lib.hid hr
  have HH := Lib.hid hc
  have HE := Lib.hid he
  clear hr hc he
  go_enter Try.func104, Try.ntmps104
  go_wp2_with fail
  refine (job_index l A c (w.alloc (.cells #[.int .i64 id] 3)) 115 #[.pointer (some ⟨w.heap.size, 0, none⟩)] (fun x => decide (x.f0 = id)) (Kd.C_alloc HR.out _) HH.out HE.out (fun x hx B e w' hb => find1_calls x B e w.heap.size id w' ((hb.cell (new_lt _ _)).trans (new_one _ _ _)))).mono ?_
  rintro e w1 ⟨rfl, hb⟩
  have HB := Lib.hid (below_then (below_alloc (Below.refl _ w) (.cells #[.int .i64 id] 3)) (below_alloc (Below.refl _ w) (.cells #[.int .i64 id] 3)).size hb)
  have HG := Lib.hid (idxOf_ge l fun x => decide (x.f0 = id))
  clear hb
  obtain ⟨i, hi⟩ : ∃ i, i = idxOf l fun x => decide (x.f0 = id) := ⟨_, rfl⟩
  rw [← hi] at HG ⊢
  have HI := Lib.hid hi
  clear hi
  by_cases h0 : 0 ≤ i
  all_goals
    go_wp2_with fail
    go_ret2
    refine ⟨?_, HB.out⟩
    rw [← HI.out, ← HG.out]
    simp [h0]
    try omega
end Go.Proofs.Ythcikldhlohjbaa.PS
