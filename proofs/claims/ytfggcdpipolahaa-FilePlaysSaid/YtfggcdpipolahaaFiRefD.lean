/- The document's disk beside the program's: what it holds now, Read, Durable. -/
import Derived.Test.YtfggcdpipolahaaFiAft
import Derived.Test.YtfggcdpipolahaaFiRefC
set_option linter.unusedVariables false
set_option linter.unusedSimpArgs false
namespace Go.Proofs.Ytfggcdpipolahaa.PF
open Go.RowKit Go.Proofs.YtfggcdpipolahaaW.PrintWords Go.Proofs.YtfggcdpipolahaaW.PrintLast Go.Proofs.YtfggcdpipolahaaW.PrintMore
attribute [local go_sem] max2_int min2_int max_two min_two
/-- How a countdown stands in the program (x) and in the document (r), behind at most j steps. -/
def ArmR (j : Nat) (x r : Int) : Prop := (x = 0 ∧ r = -1) ∨ (1 ≤ x ∧ r = x - 1 ∧ x ≤ 4611686018427387905) ∨ (4611686018427387904 ≤ x + j ∧ x ≤ 4611686018427387905 ∧ 4611686018427387904 ≤ r + j ∧ r ≤ 9223372036854775807)
theorem ArmR.mono {j k : Nat} {x r : Int} (h : ArmR j x r) (hk : j ≤ k) : ArmR k x r := by unfold ArmR at *; omega
theorem ArmR.dec {j : Nat} {x r : Int} (h : ArmR j x r) (hj : j ≤ 1000) : ArmR (j + 1) (dec x) (less r) := by unfold ArmR at *; unfold PF.dec PF.less; split <;> split <;> omega
/-- The document's disk r is the program's a. -/
structure DR (j : Nat) (ok : Nat → Prop) (w : World) (r : RD) (a : ADk) : Prop where
  mem : ∃ rs, RM ok w r rs a.safe a.ops
  down : r.down = a.down
  arm : ArmR j a.arm r.arm
  fail : ArmR j a.fail r.fail
  wth : 0 ≤ r.fail → r.wth = a.wth
theorem RM.mono {ok ok' : Nat → Prop} {w : World} {r : RD} {rs : List Rop} {x : Fs} {os : List AOp} (h : RM ok w r rs x os) (hk : ∀ k, ok k → ok' k) : RM ok' w r rs x os := ⟨h.f.map (fun _ _ g => g.mono hk), Kd.R_mono h.ops hk, h.rel.map (fun _ _ g => g.mono hk)⟩
theorem DR.mono {j : Nat} {ok ok' : Nat → Prop} {w : World} {r : RD} {a : ADk} (h : DR j ok w r a) (hk : ∀ k, ok k → ok' k) : DR j ok' w r a := ⟨h.mem.elim fun rs m => ⟨rs, m.mono hk⟩, h.down, h.arm, h.fail, h.wth⟩
theorem DR.le {j k : Nat} {ok : Nat → Prop} {w : World} {r : RD} {a : ADk} (h : DR j ok w r a) (hk : j ≤ k) : DR k ok w r a := ⟨h.mem, h.down, h.arm.mono hk, h.fail.mono hk, h.wth⟩
theorem DR.below {j : Nat} {ok : Nat → Prop} {w w1 : World} {r : RD} {a : ADk} (h : DR j ok w r a) (hb : Below w.heap.size w w1) : DR j ok w1 r a := ⟨h.mem.elim fun rs m => ⟨rs, m.below hb⟩, h.down, h.arm, h.fail, h.wth⟩
theorem DR.nums {j : Nat} {ok : Nat → Prop} {w : World} {r : RD} {a : ADk} (h : DR j ok w r a) (hj : j ≤ 1000) : -1 ≤ r.arm ∧ r.arm ≤ 9223372036854775807 ∧ -1 ≤ r.fail ∧ r.fail ≤ 9223372036854775807 := by
  have h1 := h.arm
  have h2 := h.fail
  unfold ArmR at h1 h2
  omega
theorem go_same (r : RD) : r.go.1.f = r.f ∧ r.go.1.ops = r.ops := by
  unfold RD.go
  split
  · exact ⟨rfl, rfl⟩
  · split
    · exact ⟨rfl, rfl⟩
    · split <;> exact ⟨rfl, rfl⟩
theorem DR.go {j : Nat} {ok : Nat → Prop} {w : World} {r : RD} {a : ADk} (h : DR j ok w r a) (hj : j ≤ 1000) : r.go.2 = a.stop.2 ∧ DR (j + 1) ok w r.go.1 a.stop.1 := by
  have hA := h.arm
  have hF := h.fail
  have e1 : r.arm = 0 ↔ a.arm = 1 := by unfold ArmR at hA; omega
  have e2 : r.fail = 0 ↔ a.fail = 1 := by unfold ArmR at hF; omega
  have hd := h.down
  have hA' := hA.dec hj
  have hF' := hF.dec hj
  have hw : 0 ≤ less r.fail → r.wth = a.wth := fun hl => h.wth (by unfold PF.less at hl; split at hl <;> omega)
  obtain ⟨rs, hm⟩ := h.mem
  unfold RD.go ADk.stop
  rw [hd]
  by_cases c1 : a.down = true
  · rw [if_pos c1, if_pos c1]
    exact ⟨rfl, ⟨rs, hm⟩, hd, hA.mono (by omega), hF.mono (by omega), h.wth⟩
  rw [if_neg c1, if_neg c1]
  by_cases c2 : a.arm = 1
  · rw [if_pos (e1.2 c2), if_pos c2]
    exact ⟨rfl, ⟨rs, ⟨hm.f, hm.ops, hm.rel⟩⟩, rfl, hA', hF', hw⟩
  rw [if_neg (fun e => c2 (e1.1 e)), if_neg c2]
  by_cases c3 : a.fail = 1
  · rw [if_pos (e2.2 c3), if_pos c3]
    exact ⟨h.wth (by have := e2.2 c3; omega), ⟨rs, ⟨hm.f, hm.ops, hm.rel⟩⟩, rfl, hA', hF', hw⟩
  rw [if_neg (fun e => c3 (e2.1 e)), if_neg c3]
  exact ⟨rfl, ⟨rs, ⟨hm.f, hm.ops, hm.rel⟩⟩, rfl, hA', hF', hw⟩
set_option maxRecDepth 100000 in
theorem s3_ix (s : S3) (f : Nat) (hf : f < 3) (w : World) : (Instr.index 50 (.agg s.cells) (.int .i64 f)).run Try.prog w = .ok (.slice (s.get f).1 (s.get f).2.1 (s.get f).2.2) w := by
  match f, hf with
  | 0, _ => rfl
  | 1, _ => rfl
  | 2, _ => rfl
abbrev f3z : Array Value := #[.slice none 0 0, .slice none 0 0, .slice none 0 0]
set_option maxRecDepth 100000 in
set_option maxHeartbeats 4000000 in
theorem nowR_calls {ok : Nat → Prop} {w : World} {r : RD} {rs : List Rop} {x : Fs} {os : List AOp} (h : RM ok w r rs x os) (hv : Valid x os) (hlen : os.length ≤ 1099511627776) :
    Calls Try.prog 55 #[.agg r.cells] w fun e w' => ∃ s : S3, e = .returned (.agg s.cells) ∧ By3 (fun k => ok k ∨ w.heap.size ≤ k) w' s (x.play os) ∧ Below w.heap.size w w' := by
  have hr := Kd.R_reads' h.ops
  have hnl := h.rel.len
  have HN := Lib.hid (show r.ops.2.1 = os.length by rw [hr.1, hnl])
  have HM := Lib.hid (fun W (hb : Below w.heap.size w W) => after_calls (h.below hb) hv hlen os.length 0 (by omega))
  have hn : r.ops.2.1 ≤ 9223372036854775807 := by have := HN.out; omega
  clear h hv hlen hr hnl
  go_enter Try.func55, Try.ntmps55
  go_upto_region 1 with (fail)
  have HD := Lib.hid (blk_alloc (blk_new w (.cells r.cells 53)) (.cells #[.slice none 0 0, .slice none 0 0, .slice none 0 0] 50))
  have HZ := Lib.hid (show ((w.alloc (.cells r.cells 53)).alloc (.cells #[.slice none 0 0, .slice none 0 0, .slice none 0 0] 50)).heap[w.heap.size + 1]? = some (.cells #[.slice none 0 0, .slice none 0 0, .slice none 0 0] 50 (0, 0)) by rw [← World.size_alloc w (.cells r.cells 53)]; exact blk_new _ _)
  have HB := Lib.hid (below_alloc (below_alloc (Below.refl w.heap.size w) (.cells r.cells 53)) (.cells #[.slice none 0 0, .slice none 0 0, .slice none 0 0] 50))
  generalize (w.alloc (.cells r.cells 53)).alloc _ = W at HD HZ HB ⊢
  obtain ⟨g, hg⟩ : ∃ g, g = w.heap.size := ⟨_, rfl⟩
  rw [← hg] at HD HZ ⊢
  have HG := Lib.hid hg
  clear hg
  have c3 : W.cell? ⟨g, 3, none⟩ = some (.slice r.ops.1 r.ops.2.1 r.ops.2.2) := (blk_cell HD.out 3).trans rfl
  go_wp2_with (first | (refine wl_load 53 (.tmp 1) rfl rfl _ _ rfl (rd_ld HD.out) ?_) | fail)
  rw [HN.out]
  refine (HM.out _ HB.out).mono ?_
  rintro e w1 ⟨s, rfl, hs, hb⟩
  have HS := Lib.hid hs
  have HB1 := Lib.hid hb
  have HZ1 := Lib.hid (blk_below HZ.out hb)
  clear hs hb
  go_wp2_with (first | (refine wl_store (old := #[.slice none 0 0, .slice none 0 0, .slice none 0 0]) (cells := s.cells) 50 (.tmp 2) (.tmp 7) rfl rfl rfl rfl HZ1.out info3b rfl (by simp [Value.oneCell', S3.cells]) ?_) | fail)
  refine bodyPost_ret (results_cell_row rfl _ _ (g + 1) 50 s.cells (0, 0) _ rfl (setRow_heap _ _ _ _ _ _ HZ1.out) Try.underlying50 rfl info3b) rfl ?_
  refine ⟨s, rfl, ?_, below_setRow (below_then HB.out HB.out.size HB1.out) (by have := HG.out; omega) _⟩
  have := HS.out
  rw [crash_all (Nat.le_refl _)] at this
  exact this.map (fun _ _ k => (k.mono (fun q hq => hq.imp id (Nat.le_trans HB.out.size))).box HZ1.out (by decide) ⟨rfl, rfl, rfl, by simp, fun k _ hne => setRow_other _ _ _ _ (fun e => hne (by rw [e]))⟩)
def PostB (w : World) (ok : Nat → Prop) (x : List Int) (z : Int) (e : Ending) (w' : World) : Prop := ∃ s : Sl, e = .returned (.tuple #[.slice s.1 s.2.1 s.2.2, .int .i64 z]) ∧ By (fun k => ok k ∨ w.heap.size ≤ k) w' s x ∧ Below w.heap.size w w'
set_option maxRecDepth 100000 in
set_option maxHeartbeats 4000000 in
theorem readR_calls {j n : Nat} {ok : Nat → Prop} {w : World} {r : RD} {a : ADk} (h : DR j ok w r a) (hg : Good n a) (hn : n ≤ 1099511627776) (f : Int) :
    Calls Try.prog 45 #[.agg r.cells, .int .i64 f] w (PostB w ok (a.read f).1 (a.read f).2) := by
  obtain ⟨rs, hm⟩ := h.mem
  have HM := Lib.hid (fun W (hb : Below w.heap.size w W) => nowR_calls (hm.below hb) hg.valid (Nat.le_trans hg.ops hn))
  have HD0 := Lib.hid (blk_new w (.cells r.cells 53))
  have HB0 := Lib.hid (below_alloc (Below.refl w.heap.size w) (.cells r.cells 53))
  have HW := Lib.hid (And.intro h.down hg.now)
  unfold ADk.read
  clear h hm hg hn
  by_cases h0 : 0 ≤ f
  case neg =>
    rw [if_neg (by omega)]
    go_enter Try.func45, Try.ntmps45
    go_wp2
    go_ret2
    exact ⟨(none, 0, 0), rfl, By.nil _ _, HB0.out⟩
  by_cases h3 : f < 3
  case neg =>
    rw [if_neg (by omega)]
    go_enter Try.func45, Try.ntmps45
    go_wp2
    go_ret2
    exact ⟨(none, 0, 0), rfl, By.nil _ _, HB0.out⟩
  obtain ⟨m, rfl⟩ : ∃ m : Nat, f = m := ⟨f.toNat, by omega⟩
  have hm3 : m < 3 := by omega
  rw [if_pos ⟨h0, h3⟩, Int.toNat_natCast]
  by_cases hd : a.down = true
  · rw [if_pos hd]
    have c2 : (w.alloc (.cells r.cells 53)).cell? ⟨w.heap.size, 4, none⟩ = some (.bool true) := (blk_cell HD0.out 4).trans (by rw [← hd, ← HW.out.1]; rfl)
    clear hd
    go_enter Try.func45, Try.ntmps45
    go_wp2
    go_ret2
    exact ⟨(none, 0, 0), rfl, By.nil _ _, HB0.out⟩
  rw [if_neg hd]
  have c2 : (w.alloc (.cells r.cells 53)).cell? ⟨w.heap.size, 4, none⟩ = some (.bool false) := (blk_cell HD0.out 4).trans (by rw [show false = r.down by rw [HW.out.1]; cases e : a.down with | true => exact absurd e hd | false => rfl]; rfl)
  clear hd
  have hge : ¬ 3 ≤ (m : Int) := by omega
  have hix := fun (s : S3) (u : World) => s3_ix s m hm3 u
  go_enter Try.func45, Try.ntmps45
  go_wp2_with (first | (refine wl_load 53 (.tmp 2) rfl rfl _ _ rfl (rd_ld HD0.out) ?_) | fail)
  refine (HM.out _ HB0.out).mono ?_
  rintro e w1 ⟨s, rfl, hs, hb⟩
  have HS := Lib.hid hs
  have HB1 := Lib.hid hb
  clear hs hb
  go_wp2
  go_ret2
  refine ⟨_, rfl, ?_, below_then HB0.out HB0.out.size HB1.out⟩
  rw [HW.out.2]
  exact (HS.out.get m).mono (fun q hq => hq.imp id (Nat.le_trans HB0.out.size))
set_option maxRecDepth 100000 in
set_option maxHeartbeats 4000000 in
theorem durableR_calls {j : Nat} {ok : Nat → Prop} {w : World} {r : RD} {a : ADk} (h : DR j ok w r a) (f : Int) :
    Calls Try.prog 46 #[.agg r.cells, .int .i64 f] w (PostB w ok (a.durable f).1 (a.durable f).2) := by
  obtain ⟨rs, hm⟩ := h.mem
  have HD0 := Lib.hid (blk_new w (.cells r.cells 53))
  have HB0 := Lib.hid (below_alloc (Below.refl w.heap.size w) (.cells r.cells 53))
  have HM := Lib.hid hm
  unfold ADk.durable
  clear h hm
  by_cases h0 : 0 ≤ f
  case neg =>
    rw [if_neg (by omega)]
    go_enter Try.func46, Try.ntmps46
    go_wp2
    go_ret2
    exact ⟨(none, 0, 0), rfl, By.nil _ _, HB0.out⟩
  by_cases h3 : f < 3
  case neg =>
    rw [if_neg (by omega)]
    go_enter Try.func46, Try.ntmps46
    go_wp2
    go_ret2
    exact ⟨(none, 0, 0), rfl, By.nil _ _, HB0.out⟩
  obtain ⟨m, rfl⟩ : ∃ m : Nat, f = m := ⟨f.toNat, by omega⟩
  have hm3 : m < 3 := by omega
  rw [if_pos ⟨h0, h3⟩, Int.toNat_natCast]
  have hge : ¬ 3 ≤ (m : Int) := by omega
  have cm : (w.alloc (.cells r.cells 53)).cell? ⟨w.heap.size, m, none⟩ = some (.slice (r.f.get m).1 (r.f.get m).2.1 (r.f.get m).2.2) := (blk_cell HD0.out m).trans (by
    match m, hm3 with
    | 0, _ => rfl
    | 1, _ => rfl
    | 2, _ => rfl)
  go_enter Try.func46, Try.ntmps46
  go_wp2
  go_ret2
  exact ⟨_, rfl, ((HM.out.f.get m).mono (fun _ => .inl)).below HB0.out, HB0.out⟩
end Go.Proofs.Ytfggcdpipolahaa.PF
