/- musterlaw20's awake. -/
import Derived.Test.YthcikldhlohjbaaSDepsC
import Derived.Test.YthcikldhlohjbaaPSx2
import Derived.Deep.RegionHeld3
set_option linter.unusedVariables false
set_option linter.unusedSimpArgs false
namespace Go.Proofs.Ythcikldhlohjbaa.PS
open Go.RowKit Go.Proofs.YthcikldhlohjbaaW.PrintWords Go.Proofs.YthcikldhlohjbaaW.PrintLast Go.Proofs.YthcikldhlohjbaaW.PrintMore
/-- The three jobs. -/
def spec0 : S38 := z38
def job0 (i s : Int) : S43 := { z43 with f0 := i, f4 := s }
def jobs0 : List S43 := [job0 1 3, job0 2 4, job0 3 2]
def deps0 : List S104 := [⟨2, 1⟩, ⟨2, 2⟩, ⟨3, 2⟩, ⟨1, 2⟩, ⟨1, 3⟩, ⟨2, 9⟩]
def jobCells (i s : Int) : List Value := [.int .i64 i, .int .i64 0, .int .i64 0, .string ⟨#[]⟩, .string ⟨#[]⟩, .string ⟨#[]⟩, .string ⟨#[]⟩, .int .i64 0, .int .i64 0, .int .i64 0, .slice none 0 0, .int .u8 s, .int .i64 0, .int .i64 0, .int .i64 0, .int .u32 0, .int .i64 0]
theorem jobK (w : World) (i s : Int) : k43.K w (job0 i s) (jobCells i s) := k43_mk w (job0 i s) (A10 := none) (c10 := 0) (Nat.le_refl _) (Kd.C_nil _ _)
theorem jobs0_reads (w : World) (fr : Nat × Nat) : Kd.C k43 (w.alloc (.cells (jobCells 1 3 ++ jobCells 2 4 ++ jobCells 3 2).toArray 43 fr)) (some ⟨w.heap.size, 0, none⟩) 3 jobs0 := by
  refine ⟨rfl, by decide, fun _ => ⟨_, rfl, fun j p hp => ?_⟩⟩
  have hh := heap_alloc_new w (.cells (jobCells 1 3 ++ jobCells 2 4 ++ jobCells 3 2).toArray 43 fr)
  have key : ∀ (q : Nat) (u : Value), (jobCells 1 3 ++ jobCells 2 4 ++ jobCells 3 2)[q]? = some u → (w.alloc (.cells (jobCells 1 3 ++ jobCells 2 4 ++ jobCells 3 2).toArray 43 fr)).cell? ((⟨w.heap.size, 0, none⟩ : Addr).add q) = some u := by
    intro q u hu
    rw [add_plain]
    unfold World.cell?
    rw [hh]
    simpa using hu
  match j, hp with
  | 0, hp => obtain rfl : job0 1 3 = p := by simpa [jobs0] using hp
             exact ⟨_, rfl, jobK _ 1 3, fun i u hu => key _ _ (by rw [Nat.zero_mul, Nat.zero_add, List.append_assoc, List.getElem?_append_left (by have := (List.getElem?_eq_some_iff.1 hu).1; exact this)]; exact hu)⟩
  | 1, hp => obtain rfl : job0 2 4 = p := by simpa [jobs0] using hp
             exact ⟨_, rfl, jobK _ 2 4, fun i u hu => key _ _ (by
               have hl : i < 17 := (List.getElem?_eq_some_iff.1 hu).1
               rw [List.append_assoc, List.getElem?_append_right (by show 17 ≤ 1 * 17 + i; omega), List.getElem?_append_left (by show 1 * 17 + i - 17 < 17; omega), show 1 * k43.sz + i - (jobCells 1 3).length = i by show 1 * 17 + i - 17 = i; omega]; exact hu)⟩
  | 2, hp => obtain rfl : job0 3 2 = p := by simpa [jobs0] using hp
             exact ⟨_, rfl, jobK _ 3 2, fun i u hu => key _ _ (by
               have hl : i < 17 := (List.getElem?_eq_some_iff.1 hu).1
               rw [List.getElem?_append_right (by show 34 ≤ 2 * 17 + i; omega), show 2 * k43.sz + i - (jobCells 1 3 ++ jobCells 2 4).length = i by show 2 * 17 + i - 34 = i; omega]; exact hu)⟩
  | j + 3, hp => cases hp

theorem dep_reads (w : World) (d : S104) (fr : Nat × Nat) : Kd.C k104 (w.alloc (.cells #[.int .u8 d.f0, .int .i64 d.f1] 104 fr)) (some ⟨w.heap.size, 0, none⟩) 1 [d] := by
  refine ⟨rfl, by decide, fun _ => ⟨_, rfl, fun j p hp => ?_⟩⟩
  have hh := heap_alloc_new w (.cells #[.int .u8 d.f0, .int .i64 d.f1] 104 fr)
  match j, hp with
  | 0, hp =>
    obtain rfl : d = p := by simpa using hp
    refine ⟨_, rfl, k104_mk _ d, fun i u hu => ?_⟩
    rw [add_plain]
    unfold World.cell?
    rw [hh]
    match i, hu with
    | 0, hu => exact hu
    | 1, hu => exact hu
    | i + 2, hu => cases hu
  | j + 1, hp => cases hp
theorem vs0 : ∀ d ∈ deps0, True := fun _ _ => trivial
theorem hold0 : deps0.map (fun d => depsHolds [d] jobs0) = [true, false, true, true, false, false] := by decide +kernel
theorem never0 : deps0.map (fun d => depsNever [d] jobs0) = [false, true, false, false, false, true] := by decide +kernel
theorem right0 : deps_Right.f 9 [⟨2, 5⟩] 5 = some 200 ∧ deps_Right.f 9 [⟨2, 5⟩] 6 = some 0 := by decide +kernel

theorem box_cell (w : World) (C : Array Value) (t : TypeId) (i : Nat) (v : Value) (h : C[i]? = some v) : (w.alloc (.cells C t)).cell? ⟨w.heap.size, i, none⟩ = some v := by
  have hh := heap_alloc_new w (.cells C t)
  unfold World.cell?
  rw [hh]
  exact h
theorem past {w w' : World} {a : Addr} {v : Value} (hb : Below w.heap.size w w') (h : w.cell? a = some v) : w'.cell? a = some v := (hb.cell (World.block_lt_of_cell? w _ h)).trans h

theorem keep_step {w1 w2 w : World} {a1 a2 a3 a4 : Addr} {v1 v2 v3 v4 : Value} {A : Option Addr} (hb : Below w1.heap.size w1 w2)
    (h : w1.cell? a1 = some v1 ∧ w1.cell? a2 = some v2 ∧ w1.cell? a3 = some v3 ∧ w1.cell? a4 = some v4 ∧ Kd.C k43 w1 A 3 jobs0 ∧ Below w.heap.size w w1) :
    w2.cell? a1 = some v1 ∧ w2.cell? a2 = some v2 ∧ w2.cell? a3 = some v3 ∧ w2.cell? a4 = some v4 ∧ Kd.C k43 w2 A 3 jobs0 ∧ Below w.heap.size w w2 :=
  ⟨past hb h.1, past hb h.2.1, past hb h.2.2.1, past hb h.2.2.2.1, Kd.C_below h.2.2.2.2.1 hb, below_then h.2.2.2.2.2 h.2.2.2.2.2.size hb⟩
theorem jobs_of {w1 w : World} {a1 a2 a3 a4 : Addr} {v1 v2 v3 v4 : Value} {A : Option Addr}
    (h : w1.cell? a1 = some v1 ∧ w1.cell? a2 = some v2 ∧ w1.cell? a3 = some v3 ∧ w1.cell? a4 = some v4 ∧ Kd.C k43 w1 A 3 jobs0 ∧ Below w.heap.size w w1) : Kd.C k43 w1 A 3 jobs0 := h.2.2.2.2.1
theorem below_of {w1 w : World} {a1 a2 a3 a4 : Addr} {v1 v2 v3 v4 : Value} {A : Option Addr}
    (h : w1.cell? a1 = some v1 ∧ w1.cell? a2 = some v2 ∧ w1.cell? a3 = some v3 ∧ w1.cell? a4 = some v4 ∧ Kd.C k43 w1 A 3 jobs0 ∧ Below w.heap.size w w1) : Below w.heap.size w w1 := h.2.2.2.2.2
theorem round_facts (k : Nat) (hk : k < 6) : ∃ (d : S104) (h n : Bool), deps0[k]? = some d ∧ ([true, false, true, true, false, false] : List Bool)[k]? = some h ∧ ([false, true, false, false, false, true] : List Bool)[k]? = some n ∧ depsHolds [d] jobs0 = h ∧ depsNever [d] jobs0 = n := by
  have h1 := congrArg (·[k]?) hold0
  have h2 := congrArg (·[k]?) never0
  simp only [List.getElem?_map] at h1 h2
  match k, hk with
  | 0, _ => exact ⟨_, _, _, rfl, rfl, rfl, Option.some.inj h1, Option.some.inj h2⟩
  | 1, _ => exact ⟨_, _, _, rfl, rfl, rfl, Option.some.inj h1, Option.some.inj h2⟩
  | 2, _ => exact ⟨_, _, _, rfl, rfl, rfl, Option.some.inj h1, Option.some.inj h2⟩
  | 3, _ => exact ⟨_, _, _, rfl, rfl, rfl, Option.some.inj h1, Option.some.inj h2⟩
  | 4, _ => exact ⟨_, _, _, rfl, rfl, rfl, Option.some.inj h1, Option.some.inj h2⟩
  | 5, _ => exact ⟨_, _, _, rfl, rfl, rfl, Option.some.inj h1, Option.some.inj h2⟩

set_option maxRecDepth 100000 in
set_option maxHeartbeats 4000000 in
theorem awake20_calls (w : World) : Calls Try.prog 14 #[] w fun e w' => e = .returned (.bool true) ∧ Below w.heap.size w w' := by
  go_enter Try.func14, Try.ntmps14
  go_wp2_with fail
  generalize hXX : w.alloc (.cells _ 43) = WX
  have hJ1 : Kd.C k43 WX (some ⟨w.heap.size, 0, none⟩) 3 jobs0 := by rw [← hXX]; exact jobs0_reads w (0, 0)
  have hB1 : Below w.heap.size w WX := by rw [← hXX]; exact below_alloc (Below.refl _ w) _
  have hs1 : w.heap.size + 1 = WX.heap.size := by rw [← hXX]; show _ = (w.heap.push _).size; rw [Array.size_push]
  clear hXX
  obtain ⟨b1, hb1⟩ : ∃ b1, b1 = w.heap.size + 1 := ⟨_, rfl⟩
  obtain ⟨b2, hb2⟩ : ∃ b2, b2 = b1 + 1 := ⟨_, rfl⟩
  rw [← hb1, ← hb2]
  generalize hYY : WX.alloc (.cells _ 101) = WY
  have hc1 : ∀ i v, (#[.bool true, .bool false, .bool true, .bool true, .bool false, .bool false] : Array Value)[i]? = some v → WY.cell? ⟨b1, i, none⟩ = some v := fun i v hv => by rw [← hYY, hb1, hs1]; exact box_cell _ _ _ _ _ hv
  have hB2 : Below WX.heap.size WX WY := by rw [← hYY]; exact below_alloc (Below.refl _ WX) _
  have hs2 : b2 = WY.heap.size := by rw [← hYY, hb2, hb1, hs1]; show _ = (WX.heap.push _).size; rw [Array.size_push]
  clear hYY
  generalize hZZ : WY.alloc (.cells _ 101) = WZ
  have hc2 : ∀ i v, (#[.bool false, .bool true, .bool false, .bool false, .bool false, .bool true] : Array Value)[i]? = some v → WZ.cell? ⟨b2, i, none⟩ = some v := fun i v hv => by rw [← hZZ, hs2]; exact box_cell _ _ _ _ _ hv
  have hB3 : Below WY.heap.size WY WZ := by rw [← hZZ]; exact below_alloc (Below.refl _ WY) _
  clear hZZ
  obtain ⟨b0, hb0⟩ : ∃ b0, b0 = w.heap.size := ⟨_, rfl⟩
  rw [← hb0] at hJ1 ⊢
  have HC1 : Hid (∀ i v, (#[.bool true, .bool false, .bool true, .bool true, .bool false, .bool false] : Array Value)[i]? = some v → WZ.cell? ⟨b1, i, none⟩ = some v) := Lib.hid fun i v hv => past hB3 (hc1 i v hv)
  have HC2 := Lib.hid hc2
  have HJ := Lib.hid (Kd.C_below (Kd.C_below hJ1 hB2) hB3)
  have HB := Lib.hid (below_then (below_then hB1 hB1.size hB2) (below_then hB1 hB1.size hB2).size hB3)
  clear hc1 hc2 hB3 hB2 hJ1 hB1 hs1 hs2 hb1 hb2 hb0
  go_loopw [19] (fun i wr => ∃ j : Nat, j ≤ 6 ∧ i = .int .i64 j ∧ Hid (Below WZ.heap.size WZ wr)) (fun i _ => 6 - (intOf i).toNat)
  case atStart => exact ⟨0, Nat.zero_le _, rfl, Lib.hid (Below.refl _ _)⟩
  case round =>
    obtain ⟨j, hj, rfl, HW⟩ := hrel
    rcases (by omega : j = 0 ∨ j = 1 ∨ j = 2 ∨ j = 3 ∨ j = 4 ∨ j = 5 ∨ j = 6) with rfl | rfl | rfl | rfl | rfl | rfl | rfl
    · have hix : ∀ u : World, (Instr.index 105 (.agg #[.int .u8 2, .int .i64 1, .int .u8 2, .int .i64 2, .int .u8 3, .int .i64 2, .int .u8 1, .int .i64 2, .int .u8 1, .int .i64 3, .int .u8 2, .int .i64 9]) (.int .i64 0)).run Try.prog u = .ok (.agg #[.int .u8 2, .int .i64 1]) u := fun u => by rfl
      have hk1 : depsHolds [⟨2, 1⟩] jobs0 = true := by decide +kernel
      have hk2 : depsNever [⟨2, 1⟩] jobs0 = false := by decide +kernel
      go_wp2_with fail
      generalize hWD : wr.alloc (.cells _ 104) = WD
      obtain ⟨bd, hbd⟩ : ∃ bd, bd = wr.heap.size := ⟨_, rfl⟩
      rw [← hbd]
      have hS : WD.cell? ⟨bd, 0, none⟩ = some (.int .u8 2) ∧ WD.cell? ⟨bd, 1, none⟩ = some (.int .i64 1) ∧ WD.cell? ⟨b1, 0, none⟩ = some (.bool true) ∧ WD.cell? ⟨b2, 0, none⟩ = some (.bool false) ∧ Kd.C k43 WD (some ⟨b0, 0, none⟩) 3 jobs0 ∧ Below WZ.heap.size WZ WD := by
        have hb := below_alloc (Below.refl _ wr) (.cells #[.int .u8 2, .int .i64 1] 104)
        rw [hWD] at hb
        exact ⟨by rw [← hWD, hbd]; exact box_cell _ _ _ _ _ rfl, by rw [← hWD, hbd]; exact box_cell _ _ _ _ _ rfl, past hb (past HW.out (HC1.out _ _ rfl)), past hb (past HW.out (HC2.out _ _ rfl)), Kd.C_below (Kd.C_below HJ.out HW.out) hb, below_then HW.out HW.out.size hb⟩
      clear hWD hbd hix
      go_region_held3 (fun w' => w'.cell? ⟨bd, 0, none⟩ = some (.int .u8 2) ∧ w'.cell? ⟨bd, 1, none⟩ = some (.int .i64 1) ∧ w'.cell? ⟨b1, 0, none⟩ = some (.bool true) ∧ w'.cell? ⟨b2, 0, none⟩ = some (.bool false) ∧ Kd.C k43 w' (some ⟨b0, 0, none⟩) 3 jobs0 ∧ Below WZ.heap.size WZ w')
        (first | exact keep_step (by assumption) (by assumption) | exact keep_step (below_alloc (Below.refl _ _) _) (by assumption) | exact keep_step (below_drew1 (Below.refl _ _)) (by assumption) | exact keep_step (below_drew1 (below_alloc (Below.refl _ _) _)) (by assumption))
        (first
          | (go_at_call 19; refine (holds_calls [⟨2, 1⟩] _ 1 jobs0 _ 3 _ (by first | exact dep_reads _ ⟨2, 1⟩ (0, 0) | exact Kd.C_drew (dep_reads _ ⟨2, 1⟩ (0, 0))) (by decide) (by first | exact jobs_of (by assumption) | exact Kd.C_alloc (jobs_of (by assumption)) _ | exact Kd.C_drew (Kd.C_alloc (jobs_of (by assumption)) _)) (by decide)).mono ?_; rintro e w2 ⟨rfl, hb2⟩; rw [hk1])
          | (go_at_call 21; refine (never_calls [⟨2, 1⟩] _ 1 jobs0 _ 3 _ (by first | exact dep_reads _ ⟨2, 1⟩ (0, 0) | exact Kd.C_drew (dep_reads _ ⟨2, 1⟩ (0, 0))) (by decide) (by first | exact jobs_of (by assumption) | exact Kd.C_alloc (jobs_of (by assumption)) _ | exact Kd.C_drew (Kd.C_alloc (jobs_of (by assumption)) _)) (by decide)).mono ?_; rintro e w2 ⟨rfl, hb2⟩; rw [hk2]))
      all_goals
        go_wp2
        go_roundw
        case rel => exact ⟨1, by omega, by go_num, Lib.hid (below_of (by assumption))⟩
        case measure => simp [intOf]
    · have hix : ∀ u : World, (Instr.index 105 (.agg #[.int .u8 2, .int .i64 1, .int .u8 2, .int .i64 2, .int .u8 3, .int .i64 2, .int .u8 1, .int .i64 2, .int .u8 1, .int .i64 3, .int .u8 2, .int .i64 9]) (.int .i64 1)).run Try.prog u = .ok (.agg #[.int .u8 2, .int .i64 2]) u := fun u => by rfl
      have hk1 : depsHolds [⟨2, 2⟩] jobs0 = false := by decide +kernel
      have hk2 : depsNever [⟨2, 2⟩] jobs0 = true := by decide +kernel
      go_wp2_with fail
      generalize hWD : wr.alloc (.cells _ 104) = WD
      obtain ⟨bd, hbd⟩ : ∃ bd, bd = wr.heap.size := ⟨_, rfl⟩
      rw [← hbd]
      have hS : WD.cell? ⟨bd, 0, none⟩ = some (.int .u8 2) ∧ WD.cell? ⟨bd, 1, none⟩ = some (.int .i64 2) ∧ WD.cell? ⟨b1, 1, none⟩ = some (.bool false) ∧ WD.cell? ⟨b2, 1, none⟩ = some (.bool true) ∧ Kd.C k43 WD (some ⟨b0, 0, none⟩) 3 jobs0 ∧ Below WZ.heap.size WZ WD := by
        have hb := below_alloc (Below.refl _ wr) (.cells #[.int .u8 2, .int .i64 2] 104)
        rw [hWD] at hb
        exact ⟨by rw [← hWD, hbd]; exact box_cell _ _ _ _ _ rfl, by rw [← hWD, hbd]; exact box_cell _ _ _ _ _ rfl, past hb (past HW.out (HC1.out _ _ rfl)), past hb (past HW.out (HC2.out _ _ rfl)), Kd.C_below (Kd.C_below HJ.out HW.out) hb, below_then HW.out HW.out.size hb⟩
      clear hWD hbd hix
      go_region_held3 (fun w' => w'.cell? ⟨bd, 0, none⟩ = some (.int .u8 2) ∧ w'.cell? ⟨bd, 1, none⟩ = some (.int .i64 2) ∧ w'.cell? ⟨b1, 1, none⟩ = some (.bool false) ∧ w'.cell? ⟨b2, 1, none⟩ = some (.bool true) ∧ Kd.C k43 w' (some ⟨b0, 0, none⟩) 3 jobs0 ∧ Below WZ.heap.size WZ w')
        (first | exact keep_step (by assumption) (by assumption) | exact keep_step (below_alloc (Below.refl _ _) _) (by assumption) | exact keep_step (below_drew1 (Below.refl _ _)) (by assumption) | exact keep_step (below_drew1 (below_alloc (Below.refl _ _) _)) (by assumption))
        (first
          | (go_at_call 19; refine (holds_calls [⟨2, 2⟩] _ 1 jobs0 _ 3 _ (by first | exact dep_reads _ ⟨2, 2⟩ (0, 0) | exact Kd.C_drew (dep_reads _ ⟨2, 2⟩ (0, 0))) (by decide) (by first | exact jobs_of (by assumption) | exact Kd.C_alloc (jobs_of (by assumption)) _ | exact Kd.C_drew (Kd.C_alloc (jobs_of (by assumption)) _)) (by decide)).mono ?_; rintro e w2 ⟨rfl, hb2⟩; rw [hk1])
          | (go_at_call 21; refine (never_calls [⟨2, 2⟩] _ 1 jobs0 _ 3 _ (by first | exact dep_reads _ ⟨2, 2⟩ (0, 0) | exact Kd.C_drew (dep_reads _ ⟨2, 2⟩ (0, 0))) (by decide) (by first | exact jobs_of (by assumption) | exact Kd.C_alloc (jobs_of (by assumption)) _ | exact Kd.C_drew (Kd.C_alloc (jobs_of (by assumption)) _)) (by decide)).mono ?_; rintro e w2 ⟨rfl, hb2⟩; rw [hk2]))
      all_goals
        go_wp2
        go_roundw
        case rel => exact ⟨2, by omega, by go_num, Lib.hid (below_of (by assumption))⟩
        case measure => simp [intOf]
    · have hix : ∀ u : World, (Instr.index 105 (.agg #[.int .u8 2, .int .i64 1, .int .u8 2, .int .i64 2, .int .u8 3, .int .i64 2, .int .u8 1, .int .i64 2, .int .u8 1, .int .i64 3, .int .u8 2, .int .i64 9]) (.int .i64 2)).run Try.prog u = .ok (.agg #[.int .u8 3, .int .i64 2]) u := fun u => by rfl
      have hk1 : depsHolds [⟨3, 2⟩] jobs0 = true := by decide +kernel
      have hk2 : depsNever [⟨3, 2⟩] jobs0 = false := by decide +kernel
      go_wp2_with fail
      generalize hWD : wr.alloc (.cells _ 104) = WD
      obtain ⟨bd, hbd⟩ : ∃ bd, bd = wr.heap.size := ⟨_, rfl⟩
      rw [← hbd]
      have hS : WD.cell? ⟨bd, 0, none⟩ = some (.int .u8 3) ∧ WD.cell? ⟨bd, 1, none⟩ = some (.int .i64 2) ∧ WD.cell? ⟨b1, 2, none⟩ = some (.bool true) ∧ WD.cell? ⟨b2, 2, none⟩ = some (.bool false) ∧ Kd.C k43 WD (some ⟨b0, 0, none⟩) 3 jobs0 ∧ Below WZ.heap.size WZ WD := by
        have hb := below_alloc (Below.refl _ wr) (.cells #[.int .u8 3, .int .i64 2] 104)
        rw [hWD] at hb
        exact ⟨by rw [← hWD, hbd]; exact box_cell _ _ _ _ _ rfl, by rw [← hWD, hbd]; exact box_cell _ _ _ _ _ rfl, past hb (past HW.out (HC1.out _ _ rfl)), past hb (past HW.out (HC2.out _ _ rfl)), Kd.C_below (Kd.C_below HJ.out HW.out) hb, below_then HW.out HW.out.size hb⟩
      clear hWD hbd hix
      go_region_held3 (fun w' => w'.cell? ⟨bd, 0, none⟩ = some (.int .u8 3) ∧ w'.cell? ⟨bd, 1, none⟩ = some (.int .i64 2) ∧ w'.cell? ⟨b1, 2, none⟩ = some (.bool true) ∧ w'.cell? ⟨b2, 2, none⟩ = some (.bool false) ∧ Kd.C k43 w' (some ⟨b0, 0, none⟩) 3 jobs0 ∧ Below WZ.heap.size WZ w')
        (first | exact keep_step (by assumption) (by assumption) | exact keep_step (below_alloc (Below.refl _ _) _) (by assumption) | exact keep_step (below_drew1 (Below.refl _ _)) (by assumption) | exact keep_step (below_drew1 (below_alloc (Below.refl _ _) _)) (by assumption))
        (first
          | (go_at_call 19; refine (holds_calls [⟨3, 2⟩] _ 1 jobs0 _ 3 _ (by first | exact dep_reads _ ⟨3, 2⟩ (0, 0) | exact Kd.C_drew (dep_reads _ ⟨3, 2⟩ (0, 0))) (by decide) (by first | exact jobs_of (by assumption) | exact Kd.C_alloc (jobs_of (by assumption)) _ | exact Kd.C_drew (Kd.C_alloc (jobs_of (by assumption)) _)) (by decide)).mono ?_; rintro e w2 ⟨rfl, hb2⟩; rw [hk1])
          | (go_at_call 21; refine (never_calls [⟨3, 2⟩] _ 1 jobs0 _ 3 _ (by first | exact dep_reads _ ⟨3, 2⟩ (0, 0) | exact Kd.C_drew (dep_reads _ ⟨3, 2⟩ (0, 0))) (by decide) (by first | exact jobs_of (by assumption) | exact Kd.C_alloc (jobs_of (by assumption)) _ | exact Kd.C_drew (Kd.C_alloc (jobs_of (by assumption)) _)) (by decide)).mono ?_; rintro e w2 ⟨rfl, hb2⟩; rw [hk2]))
      all_goals
        go_wp2
        go_roundw
        case rel => exact ⟨3, by omega, by go_num, Lib.hid (below_of (by assumption))⟩
        case measure => simp [intOf]
    · have hix : ∀ u : World, (Instr.index 105 (.agg #[.int .u8 2, .int .i64 1, .int .u8 2, .int .i64 2, .int .u8 3, .int .i64 2, .int .u8 1, .int .i64 2, .int .u8 1, .int .i64 3, .int .u8 2, .int .i64 9]) (.int .i64 3)).run Try.prog u = .ok (.agg #[.int .u8 1, .int .i64 2]) u := fun u => by rfl
      have hk1 : depsHolds [⟨1, 2⟩] jobs0 = true := by decide +kernel
      have hk2 : depsNever [⟨1, 2⟩] jobs0 = false := by decide +kernel
      go_wp2_with fail
      generalize hWD : wr.alloc (.cells _ 104) = WD
      obtain ⟨bd, hbd⟩ : ∃ bd, bd = wr.heap.size := ⟨_, rfl⟩
      rw [← hbd]
      have hS : WD.cell? ⟨bd, 0, none⟩ = some (.int .u8 1) ∧ WD.cell? ⟨bd, 1, none⟩ = some (.int .i64 2) ∧ WD.cell? ⟨b1, 3, none⟩ = some (.bool true) ∧ WD.cell? ⟨b2, 3, none⟩ = some (.bool false) ∧ Kd.C k43 WD (some ⟨b0, 0, none⟩) 3 jobs0 ∧ Below WZ.heap.size WZ WD := by
        have hb := below_alloc (Below.refl _ wr) (.cells #[.int .u8 1, .int .i64 2] 104)
        rw [hWD] at hb
        exact ⟨by rw [← hWD, hbd]; exact box_cell _ _ _ _ _ rfl, by rw [← hWD, hbd]; exact box_cell _ _ _ _ _ rfl, past hb (past HW.out (HC1.out _ _ rfl)), past hb (past HW.out (HC2.out _ _ rfl)), Kd.C_below (Kd.C_below HJ.out HW.out) hb, below_then HW.out HW.out.size hb⟩
      clear hWD hbd hix
      go_region_held3 (fun w' => w'.cell? ⟨bd, 0, none⟩ = some (.int .u8 1) ∧ w'.cell? ⟨bd, 1, none⟩ = some (.int .i64 2) ∧ w'.cell? ⟨b1, 3, none⟩ = some (.bool true) ∧ w'.cell? ⟨b2, 3, none⟩ = some (.bool false) ∧ Kd.C k43 w' (some ⟨b0, 0, none⟩) 3 jobs0 ∧ Below WZ.heap.size WZ w')
        (first | exact keep_step (by assumption) (by assumption) | exact keep_step (below_alloc (Below.refl _ _) _) (by assumption) | exact keep_step (below_drew1 (Below.refl _ _)) (by assumption) | exact keep_step (below_drew1 (below_alloc (Below.refl _ _) _)) (by assumption))
        (first
          | (go_at_call 19; refine (holds_calls [⟨1, 2⟩] _ 1 jobs0 _ 3 _ (by first | exact dep_reads _ ⟨1, 2⟩ (0, 0) | exact Kd.C_drew (dep_reads _ ⟨1, 2⟩ (0, 0))) (by decide) (by first | exact jobs_of (by assumption) | exact Kd.C_alloc (jobs_of (by assumption)) _ | exact Kd.C_drew (Kd.C_alloc (jobs_of (by assumption)) _)) (by decide)).mono ?_; rintro e w2 ⟨rfl, hb2⟩; rw [hk1])
          | (go_at_call 21; refine (never_calls [⟨1, 2⟩] _ 1 jobs0 _ 3 _ (by first | exact dep_reads _ ⟨1, 2⟩ (0, 0) | exact Kd.C_drew (dep_reads _ ⟨1, 2⟩ (0, 0))) (by decide) (by first | exact jobs_of (by assumption) | exact Kd.C_alloc (jobs_of (by assumption)) _ | exact Kd.C_drew (Kd.C_alloc (jobs_of (by assumption)) _)) (by decide)).mono ?_; rintro e w2 ⟨rfl, hb2⟩; rw [hk2]))
      all_goals
        go_wp2
        go_roundw
        case rel => exact ⟨4, by omega, by go_num, Lib.hid (below_of (by assumption))⟩
        case measure => simp [intOf]
    · have hix : ∀ u : World, (Instr.index 105 (.agg #[.int .u8 2, .int .i64 1, .int .u8 2, .int .i64 2, .int .u8 3, .int .i64 2, .int .u8 1, .int .i64 2, .int .u8 1, .int .i64 3, .int .u8 2, .int .i64 9]) (.int .i64 4)).run Try.prog u = .ok (.agg #[.int .u8 1, .int .i64 3]) u := fun u => by rfl
      have hk1 : depsHolds [⟨1, 3⟩] jobs0 = false := by decide +kernel
      have hk2 : depsNever [⟨1, 3⟩] jobs0 = false := by decide +kernel
      go_wp2_with fail
      generalize hWD : wr.alloc (.cells _ 104) = WD
      obtain ⟨bd, hbd⟩ : ∃ bd, bd = wr.heap.size := ⟨_, rfl⟩
      rw [← hbd]
      have hS : WD.cell? ⟨bd, 0, none⟩ = some (.int .u8 1) ∧ WD.cell? ⟨bd, 1, none⟩ = some (.int .i64 3) ∧ WD.cell? ⟨b1, 4, none⟩ = some (.bool false) ∧ WD.cell? ⟨b2, 4, none⟩ = some (.bool false) ∧ Kd.C k43 WD (some ⟨b0, 0, none⟩) 3 jobs0 ∧ Below WZ.heap.size WZ WD := by
        have hb := below_alloc (Below.refl _ wr) (.cells #[.int .u8 1, .int .i64 3] 104)
        rw [hWD] at hb
        exact ⟨by rw [← hWD, hbd]; exact box_cell _ _ _ _ _ rfl, by rw [← hWD, hbd]; exact box_cell _ _ _ _ _ rfl, past hb (past HW.out (HC1.out _ _ rfl)), past hb (past HW.out (HC2.out _ _ rfl)), Kd.C_below (Kd.C_below HJ.out HW.out) hb, below_then HW.out HW.out.size hb⟩
      clear hWD hbd hix
      go_region_held3 (fun w' => w'.cell? ⟨bd, 0, none⟩ = some (.int .u8 1) ∧ w'.cell? ⟨bd, 1, none⟩ = some (.int .i64 3) ∧ w'.cell? ⟨b1, 4, none⟩ = some (.bool false) ∧ w'.cell? ⟨b2, 4, none⟩ = some (.bool false) ∧ Kd.C k43 w' (some ⟨b0, 0, none⟩) 3 jobs0 ∧ Below WZ.heap.size WZ w')
        (first | exact keep_step (by assumption) (by assumption) | exact keep_step (below_alloc (Below.refl _ _) _) (by assumption) | exact keep_step (below_drew1 (Below.refl _ _)) (by assumption) | exact keep_step (below_drew1 (below_alloc (Below.refl _ _) _)) (by assumption))
        (first
          | (go_at_call 19; refine (holds_calls [⟨1, 3⟩] _ 1 jobs0 _ 3 _ (by first | exact dep_reads _ ⟨1, 3⟩ (0, 0) | exact Kd.C_drew (dep_reads _ ⟨1, 3⟩ (0, 0))) (by decide) (by first | exact jobs_of (by assumption) | exact Kd.C_alloc (jobs_of (by assumption)) _ | exact Kd.C_drew (Kd.C_alloc (jobs_of (by assumption)) _)) (by decide)).mono ?_; rintro e w2 ⟨rfl, hb2⟩; rw [hk1])
          | (go_at_call 21; refine (never_calls [⟨1, 3⟩] _ 1 jobs0 _ 3 _ (by first | exact dep_reads _ ⟨1, 3⟩ (0, 0) | exact Kd.C_drew (dep_reads _ ⟨1, 3⟩ (0, 0))) (by decide) (by first | exact jobs_of (by assumption) | exact Kd.C_alloc (jobs_of (by assumption)) _ | exact Kd.C_drew (Kd.C_alloc (jobs_of (by assumption)) _)) (by decide)).mono ?_; rintro e w2 ⟨rfl, hb2⟩; rw [hk2]))
      all_goals
        go_wp2
        go_roundw
        case rel => exact ⟨5, by omega, by go_num, Lib.hid (below_of (by assumption))⟩
        case measure => simp [intOf]
    · have hix : ∀ u : World, (Instr.index 105 (.agg #[.int .u8 2, .int .i64 1, .int .u8 2, .int .i64 2, .int .u8 3, .int .i64 2, .int .u8 1, .int .i64 2, .int .u8 1, .int .i64 3, .int .u8 2, .int .i64 9]) (.int .i64 5)).run Try.prog u = .ok (.agg #[.int .u8 2, .int .i64 9]) u := fun u => by rfl
      have hk1 : depsHolds [⟨2, 9⟩] jobs0 = false := by decide +kernel
      have hk2 : depsNever [⟨2, 9⟩] jobs0 = true := by decide +kernel
      go_wp2_with fail
      generalize hWD : wr.alloc (.cells _ 104) = WD
      obtain ⟨bd, hbd⟩ : ∃ bd, bd = wr.heap.size := ⟨_, rfl⟩
      rw [← hbd]
      have hS : WD.cell? ⟨bd, 0, none⟩ = some (.int .u8 2) ∧ WD.cell? ⟨bd, 1, none⟩ = some (.int .i64 9) ∧ WD.cell? ⟨b1, 5, none⟩ = some (.bool false) ∧ WD.cell? ⟨b2, 5, none⟩ = some (.bool true) ∧ Kd.C k43 WD (some ⟨b0, 0, none⟩) 3 jobs0 ∧ Below WZ.heap.size WZ WD := by
        have hb := below_alloc (Below.refl _ wr) (.cells #[.int .u8 2, .int .i64 9] 104)
        rw [hWD] at hb
        exact ⟨by rw [← hWD, hbd]; exact box_cell _ _ _ _ _ rfl, by rw [← hWD, hbd]; exact box_cell _ _ _ _ _ rfl, past hb (past HW.out (HC1.out _ _ rfl)), past hb (past HW.out (HC2.out _ _ rfl)), Kd.C_below (Kd.C_below HJ.out HW.out) hb, below_then HW.out HW.out.size hb⟩
      clear hWD hbd hix
      go_region_held3 (fun w' => w'.cell? ⟨bd, 0, none⟩ = some (.int .u8 2) ∧ w'.cell? ⟨bd, 1, none⟩ = some (.int .i64 9) ∧ w'.cell? ⟨b1, 5, none⟩ = some (.bool false) ∧ w'.cell? ⟨b2, 5, none⟩ = some (.bool true) ∧ Kd.C k43 w' (some ⟨b0, 0, none⟩) 3 jobs0 ∧ Below WZ.heap.size WZ w')
        (first | exact keep_step (by assumption) (by assumption) | exact keep_step (below_alloc (Below.refl _ _) _) (by assumption) | exact keep_step (below_drew1 (Below.refl _ _)) (by assumption) | exact keep_step (below_drew1 (below_alloc (Below.refl _ _) _)) (by assumption))
        (first
          | (go_at_call 19; refine (holds_calls [⟨2, 9⟩] _ 1 jobs0 _ 3 _ (by first | exact dep_reads _ ⟨2, 9⟩ (0, 0) | exact Kd.C_drew (dep_reads _ ⟨2, 9⟩ (0, 0))) (by decide) (by first | exact jobs_of (by assumption) | exact Kd.C_alloc (jobs_of (by assumption)) _ | exact Kd.C_drew (Kd.C_alloc (jobs_of (by assumption)) _)) (by decide)).mono ?_; rintro e w2 ⟨rfl, hb2⟩; rw [hk1])
          | (go_at_call 21; refine (never_calls [⟨2, 9⟩] _ 1 jobs0 _ 3 _ (by first | exact dep_reads _ ⟨2, 9⟩ (0, 0) | exact Kd.C_drew (dep_reads _ ⟨2, 9⟩ (0, 0))) (by decide) (by first | exact jobs_of (by assumption) | exact Kd.C_alloc (jobs_of (by assumption)) _ | exact Kd.C_drew (Kd.C_alloc (jobs_of (by assumption)) _)) (by decide)).mono ?_; rintro e w2 ⟨rfl, hb2⟩; rw [hk2]))
      all_goals
        go_wp2
        go_roundw
        case rel => exact ⟨6, by omega, by go_num, Lib.hid (below_of (by assumption))⟩
        case measure => simp [intOf]
    · have HB2 := Lib.hid (below_then HB.out HB.out.size HW.out)
      go_wp2_with fail
      refine (deps_Right.calls 9 _ 1 [⟨2, 5⟩] 5 200 _ (dep_reads wr ⟨2, 5⟩ (0, 0)) (by decide) right0.1).mono ?_
      rintro e w5 ⟨rfl, hb⟩
      replace HB2 := Lib.hid (below_then (below_alloc HB2.out _) (below_alloc HB2.out _).size hb)
      clear hb
      go_wp2_with fail
      refine (deps_Right.calls 9 _ 1 [⟨2, 5⟩] 6 0 _ (dep_reads w5 ⟨2, 5⟩ (0, 0)) (by decide) right0.2).mono ?_
      rintro e w6 ⟨rfl, hb⟩
      replace HB2 := Lib.hid (below_then (below_alloc HB2.out _) (below_alloc HB2.out _).size hb)
      clear hb
      go_wp2
      go_ret
      exact ⟨rfl, HB2.out⟩
end Go.Proofs.Ythcikldhlohjbaa.PS
