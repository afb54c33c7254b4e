/- What is kept while a disk is called; the same bytes twice. -/
import Derived.Test.YtfggcdpipolahaaFiSpa
import Derived.Test.YtfggcdpipolahaaFiRefE
import Derived.Test.YtfggcdpipolahaaFiLend0
set_option linter.unusedVariables false
set_option linter.unusedSimpArgs false
namespace Go.Proofs.Ytfggcdpipolahaa.PF
open Go.RowKit Go.Proofs.YtfggcdpipolahaaW.PrintWords Go.Proofs.YtfggcdpipolahaaW.PrintLast Go.Proofs.YtfggcdpipolahaaW.PrintMore
attribute [local go_sem] max2_int min2_int max_two min_two
theorem kept8_new {w w1 w2 : World} {g : Nat} (h : Kept8 w w1) (hg : w1.grownBy w2 (some g)) (hs : w.heap.size ≤ g) : Kept8 w w2 := by
  intro G ok v x hr
  have h1 := h G _ v x (Kd.R_mono (Kd.R_bound hr) (ok' := fun k => ok k ∧ k < w.heap.size) (fun _ hk => ⟨hk.1, hk.2.2.1⟩))
  exact Kd.R_mono (Kd.R_grown h1 hg (fun k hk e => by injection e with e; have := hk.2; omega)) (fun _ hk => hk.1)
theorem keptT_new {w w1 w2 : World} {g : Nat} (h : KeptT w w1) (hg : w1.grownBy w2 (some g)) (hs : w.heap.size ≤ g) : KeptT w w2 := by
  intro k t cells h1 h2 h3
  have h4 := h k t cells h1 h2 h3
  exact (hg.block k (blk_lt h4) (fun e => by injection e with e; have := blk_lt h3; omega)).trans h4
theorem rops_kept {ok : Nat → Prop} {w w1 : World} {v : Value} {rs : List Rop} (h : Kd.R kOp 99 w 0 ok v rs) (hk : KeptT w w1) : Kd.R kOp 99 w1 0 ok v rs :=
  Kd.R_mono (Kd.R_step (Kd.R_bound h) (fun k hk0 hl => by
    obtain ⟨_, _, _, q, hq, cells, hc⟩ := hk0
    have e : q = 99 := by simpa [Kd.pair, Kd.int, Kd.bool, Kd.scalar] using hq
    rw [e] at hc
    rw [hk k _ cells (by decide) (by decide) hc, hc])) (fun _ hk => hk.1)
theorem DR.kept {j : Nat} {ok : Nat → Prop} {w w1 : World} {r : RD} {a : ADk} (h : DR j ok w r a) (h8 : Kept8 w w1) (hT : KeptT w w1) : DR j ok w1 r a :=
  ⟨h.mem.elim fun rs m => ⟨rs, m.f.map (fun _ _ k => h8 _ _ _ _ k), rops_kept m.ops hT, m.rel.map (fun _ _ k => h8 _ _ _ _ k)⟩, h.down, h.arm, h.fail, h.wth⟩
theorem DR.bound {j : Nat} {ok : Nat → Prop} {w : World} {r : RD} {a : ADk} (h : DR j ok w r a) : DR j (fun k => ok k ∧ k < w.heap.size) w r a :=
  ⟨h.mem.elim fun rs m => ⟨rs, m.f.map (fun _ _ k => k.bound), Kd.R_mono (Kd.R_bound m.ops) (fun _ hk => ⟨hk.1, hk.2.2.1⟩), m.rel.map (fun _ _ k => k.bound)⟩, h.down, h.arm, h.fail, h.wth⟩
theorem DR.grown {j g : Nat} {ok : Nat → Prop} {w w1 : World} {r : RD} {a : ADk} (h : DR j ok w r a) (hg : w.grownBy w1 (some g)) (hx : ∀ k, ok k → k ≠ g) : DR j ok w1 r a :=
  have hm : ∀ k, ok k → k < w.heap.size → w1.heap[k]? = w.heap[k]? := fun k hk hl => hg.block k hl (fun e => by injection e with e; exact hx k hk e)
  ⟨h.mem.elim fun rs m => ⟨rs, m.f.map (fun _ _ k => k.step hm), Kd.R_step m.ops hm, m.rel.map (fun _ _ k => k.step hm)⟩, h.down, h.arm, h.fail, h.wth⟩
theorem armedD_calls {j : Nat} {ok : Nat → Prop} {w : World} {r : RD} {a : ADk} (h : DR j ok w r a) (n : Int) (hn : n ≤ 9223372036854775807) :
    Calls Try.prog 47 #[.agg r.cells, .int .i64 n] w (PostD j w ok (a.armed n)) := by
  refine (armed_calls r n w).mono ?_
  rintro e w' ⟨rfl, hb⟩
  have h0 := (h.below hb).mono (ok' := fun k => ok k ∨ w.heap.size ≤ k) (fun _ => .inl)
  unfold RD.armed ADk.armed
  split
  · exact ⟨r, rfl, h0, hb⟩
  · refine ⟨_, rfl, ⟨h0.mem.elim fun rs m => ⟨rs, m.f, m.ops, m.rel⟩, h0.down, ?_, h0.fail, h0.wth⟩, hb⟩
    show ArmR j (most n + 1) n
    unfold ArmR most
    split <;> omega
theorem failingD_calls {j : Nat} {ok : Nat → Prop} {w : World} {r : RD} {a : ADk} (h : DR j ok w r a) (n x : Int) (hn : n ≤ 9223372036854775807) :
    Calls Try.prog 48 #[.agg r.cells, .int .i64 n, .int .i64 x] w (PostD j w ok (a.failing n x)) := by
  refine (failing_calls r n x w).mono ?_
  rintro e w' ⟨rfl, hb⟩
  have h0 := (h.below hb).mono (ok' := fun k => ok k ∨ w.heap.size ≤ k) (fun _ => .inl)
  unfold RD.failing ADk.failing
  split
  · exact ⟨r, rfl, h0, hb⟩
  · refine ⟨_, rfl, ⟨h0.mem.elim fun rs m => ⟨rs, m.f, m.ops, m.rel⟩, h0.down, h0.arm, ?_, fun _ => rfl⟩, hb⟩
    show ArmR j (most n + 1) n
    unfold ArmR most
    split <;> omega
theorem DR.new (w : World) : DR 0 (fun _ => True) w RD.new ADk.new := ⟨⟨[], ⟨By.nil _ _, By.nil _ _, By.nil _ _⟩, Kd.R_nil _ _ _ _ _, trivial⟩, rfl, .inl ⟨rfl, rfl⟩, .inl ⟨rfl, rfl⟩, fun h => absurd h (by show ¬ (0:Int) ≤ -1; omega)⟩
set_option maxHeartbeats 1000000 in
/-- The same bytes twice: SameBytes says so. -/
theorem same_eq (A : Option Addr) (c : Nat) (l : List Int) (n : Nat) (hn : l.length = n) (A1 : Option Addr) (c1 : Nat) (w : World) (hr : Kd.C ku8 w A n l) (hr1 : Kd.C ku8 w A1 n l) :
    Calls Try.prog 15 #[.slice A n c, .slice A1 n c1] w fun e w' => e = .returned (.bool true) ∧ Drawn0 w w' := by
  subst hn
  have hcv3 := Kd.C_string (P := Try.prog) (A := A) (c := c) Try.underlying24 Try.underlying5 Try.underlying9 hr
  have hcv4 := Kd.C_string (P := Try.prog) (A := A1) (c := c1) Try.underlying24 Try.underlying5 Try.underlying9 hr1
  clear hr hr1
  go_enter Try.func15, Try.ntmps15
  go_wp2
  go_ret
  refine ⟨?_, by repeat (first | exact Drawn0.refl _ | apply Drawn0.step)⟩
  first | rfl | simp
set_option maxHeartbeats 1000000 in
theorem kept_eq (ad : Addr) (cap : Nat) (A : Option Addr) (c : Nat) (l : List Int) (w : World) (hL : Low.Lent w ad cap l) (hr : Kd.C ku8 w A l.length l) (hlen : l.length ≤ 140737488355325) :
    Calls Try.prog 41 #[.slice (some ad) l.length cap, .slice A l.length c] w fun e w' => e = .returned (.bool true) ∧ Drawn0 w w' := by
  have HS := Lib.hid (same_eq (some ad) cap l l.length rfl A c w hL.reads hr)
  have hcap : (l.length : Int) + 3 ≤ (cap : Int) := by have := hL.1; omega
  have k0 : w.cell? (ad.add l.length) = some (.int .u8 77) := Low.kept_at hL.2 0 (by decide)
  have k1 : w.cell? (ad.add (l.length + 1)) = some (.int .u8 78) := Low.kept_at hL.2 1 (by decide)
  have k2 : w.cell? (ad.add (l.length + 2)) = some (.int .u8 79) := Low.kept_at hL.2 2 (by decide)
  have k1' : w.cell? ⟨ad.block, ad.off + (l.length + 1), none⟩ = some (.int .u8 78) := by rw [← k1]; simp [Addr.add]
  have k2' : w.cell? ⟨ad.block, ad.off + (l.length + 2), none⟩ = some (.int .u8 79) := by rw [← k2]; simp [Addr.add]
  clear hr hL
  go_enter Try.func41, Try.ntmps41
  go_wp2_with fail
  refine HS.out.mono ?_
  rintro e w1 ⟨rfl, ⟨nd, rfl⟩⟩
  go_wp2
  go_ret
  exact ⟨rfl, by repeat (first | exact Drawn0.refl _ | apply Drawn0.step)⟩
end Go.Proofs.Ytfggcdpipolahaa.PF
