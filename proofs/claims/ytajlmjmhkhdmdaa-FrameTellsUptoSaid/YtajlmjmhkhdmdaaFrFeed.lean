/- Feed, walked. -/
import Derived.Test.YtajlmjmhkhdmdaaFr
import Derived.BigQuiet
import Derived.Deep.QuietTactic
set_option linter.unusedVariables false
set_option linter.unusedSimpArgs false
namespace Go.Proofs.Ytajlmjmhkhdmdaa.PF
open Go.RowKit Go.Proofs.YtajlmjmhkhdmdaaW.PrintWords Go.Proofs.YtajlmjmhkhdmdaaW.PrintLast Go.Proofs.YtajlmjmhkhdmdaaW.PrintMore
attribute [local go_sem] max2_int min2_int max_two min_two
theorem drop_C {w : World} {A : Option Addr} {l : List Int} {c : Nat} (h : Kd.C ku8 w A l.length l) (hc : l.length ≤ c) (m : Nat) (hm : m ≤ l.length) : Kd.C ku8 w (if c = m then A else A.map (·.add m)) (l.drop m).length (l.drop m) := by
  have := Kd.C_of_reads (d := 0) (h1 := fun _ => rfl) ((Kd.reads_of_C h).drop_ m hm hc)
  rw [List.length_drop]
  exact this
theorem cut_lK {P : Program} (t e : TypeId) {i : TypeInfo} (ht : P.underlying t = some (.slice e)) (hi : P.info? e = some i) (hsz : i.size = 1) (ka : IntKind) (A : Option Addr) (n c m : Nat) (hm : m ≤ n) (W : World) :
    (Instr.slice t (.slice A n c) (some (.int ka (m : Int))) none none).run P W = .ok (.slice (if c = m then A else A.map (·.add m)) (n - m) (c - m)) W := by
  have hel : P.elem t = e := by simp [Program.elem, ht]
  have hu : P.underlying t = some (.slice (P.elem t)) := by rw [hel]; exact ht
  rw [run_slice_l W t A n c hu ka (m : Int) (by omega) (by omega), hel]
  simp [sizeOf, typeInfo, hi, hsz, sliced, Result.andThen]
theorem cut_lhK {P : Program} (t e : TypeId) {i : TypeInfo} (ht : P.underlying t = some (.slice e)) (hi : P.info? e = some i) (hsz : i.size = 1) (ka kb : IntKind) (A : Option Addr) (n c m k : Nat) (hm : m ≤ k) (hk : k ≤ c) (W : World) :
    (Instr.slice t (.slice A n c) (some (.int ka (m : Int))) (some (.int kb (k : Int))) none).run P W = .ok (.slice (if c = m then A else A.map (·.add m)) (k - m) (c - m)) W := by
  have hel : P.elem t = e := by simp [Program.elem, ht]
  have hu : P.underlying t = some (.slice (P.elem t)) := by rw [hel]; exact ht
  rw [run_slice_lh W t A n c hu ka kb (m : Int) (k : Int) (by omega) (by omega) (by omega), hel]
  simp [sizeOf, typeInfo, hi, hsz, sliced, Result.andThen]
theorem infoFr : (Try.prog.info? 27).map (fun i => (i.zero, i.size, i.bytes)) = some (some (.agg #[.int .u8 0, .slice none 0 0]), 2, 32) := by kernel_rfl
/-- What Feed leaves: the frames, the reader's box, what stays. -/
def Fed (w : World) (b base : Nat) (ok : Nat → Prop) (al : List Int) (e : Ending) (w' : World) : Prop :=
  ∃ v A' c' g, e = .returned (.tuple #[v, .int .i64 (if (feedF al).2.1 = true then 30 else 0)]) ∧ w.heap.size ≤ g ∧ Kd.R k27 27 w' w.heap.size (fun k => k < g) v (feedF al).1 ∧
    RB w' b (feedF al).2.1 A' (feedF al).2.2.length c' ∧ ((feedF al).2.1 = true → A' = none ∧ c' = 0) ∧ Kd.R ku8 5 w' g (fun _ => True) (.slice A' (feedF al).2.2.length c') (feedF al).2.2 ∧ Else w w' b ok ∧ ∀ B w0, B ≤ base → Below B w0 w → Below B w0 w'
/-- The world behind the append. -/
structure Fd (w w1 : World) (b base : Nat) (ok : Nat → Prop) (A : Option Addr) (n c : Nat) : Prop where
  box : RB w1 b false A n c
  els : Else w w1 b ok
  bel : ∀ B w0, B ≤ base → Below B w0 w → Below B w0 w1
  lt : w.heap.size ≤ w1.heap.size
  bb : base ≤ b
  blt : b < w.heap.size
theorem Else.step {w w1 w2 : World} {b : Nat} {ok : Nat → Prop} (h : Else w w1 b ok) (hb : Below w1.heap.size w1 w2) : Else w w2 b ok :=
  ⟨Nat.le_trans h.1 hb.size, fun k hk h1 h2 => (hb.block k (Nat.lt_of_lt_of_le hk h.1)).trans (h.2 k hk h1 h2)⟩
theorem Else.set {w w1 : World} {b : Nat} {ok : Nat → Prop} (h : Else w w1 b ok) (o : Nat) (v : Value) : Else w (w1.setCell ⟨b, o, none⟩ v) b ok :=
  ⟨Nat.le_trans h.1 (Nat.le_of_eq (World.size_setCell _ _ _).symm), fun k hk h1 h2 => (Below.heap_setCell w1 ⟨b, o, none⟩ v k h1).trans (h.2 k hk h1 h2)⟩
/-- It broke: nothing is left. -/
theorem fed_broke {w w1 wr : World} {b base : Nat} {ok : Nat → Prop} {A : Option Addr} {n c : Nat} {al l' : List Int} {fs : List Fr} {v7 : Value} (F : Fd w w1 b base ok A n c) (hB : Below w1.heap.size w1 wr) (hO : Kd.R k27 27 wr w1.heap.size (fun _ => True) v7 fs)
    (hf : feedF al = (fs ++ (feedF l').1, (feedF l').2)) (hl : feedF l' = ([], true, [])) :
    Fed w b base ok al (.returned (.tuple #[v7, .int .i64 30])) ((wr.setCell ⟨b, 1, none⟩ (.bool true)).setCell ⟨b, 2, none⟩ (.slice none 0 0)) := by
  rw [hl, List.append_nil] at hf
  have hbx := F.box.keep hB
  have hne : ∀ k, w1.heap.size ≤ k → k ≠ b := fun k hk => by have := F.blt; have := F.lt; omega
  have hO2 : Kd.R k27 27 wr w1.heap.size (fun k => k < wr.heap.size ∧ k ≠ b) v7 fs := Kd.R_mono (Kd.R_bound hO) (fun k hk => ⟨hk.2.2.1, hne k hk.2.1⟩)
  refine ⟨v7, none, 0, wr.heap.size, by rw [hf]; rfl, Nat.le_trans F.lt hB.size, ?_, ?_, fun _ => ⟨rfl, rfl⟩, ?_, ((F.els.step hB).set _ _).set _ _, fun B w0 h1 h2 => ?_⟩
  · rw [hf]
    exact Kd.R_mono (Kd.R_lower (Kd.R_far (p := ⟨b, 2, none⟩) (Kd.R_far (p := ⟨b, 1, none⟩) hO2 (fun k hk => hk.2) _) (fun k hk => hk.2) _) F.lt) (fun k hk => hk.1)
  · rw [hf]
    exact blk_set (blk_set hbx 1 (.bool true)) 2 (.slice none 0 0)
  · rw [hf]
    exact Kd.R_nil _ _ _ _ _
  · have h3 := below_then (F.bel B w0 h1 h2) (Nat.le_trans (Nat.le_trans h1 F.bb) (Nat.le_trans (Nat.le_of_lt F.blt) F.lt)) hB
    exact (h3.setCell (Nat.le_trans h1 F.bb) _).setCell (Nat.le_trans h1 F.bb) _
/-- It waits for more. -/
theorem fed_waits {w w1 wr w2 : World} {b base : Nat} {ok : Nat → Prop} {A A' : Option Addr} {n c c' : Nat} {al l' : List Int} {fs : List Fr} {v7 : Value} (F : Fd w w1 b base ok A n c) (hB : Below w1.heap.size w1 wr) (hO : Kd.R k27 27 wr w1.heap.size (fun _ => True) v7 fs)
    (hf : feedF al = (fs ++ (feedF l').1, (feedF l').2)) (hl : feedF l' = ([], false, l')) (hR : Kd.R ku8 5 w2 wr.heap.size (fun _ => True) (.slice A' l'.length c') l') (hB2 : Below wr.heap.size wr w2) :
    Fed w b base ok al (.returned (.tuple #[v7, .int .i64 0])) (w2.setCell ⟨b, 2, none⟩ (.slice A' l'.length c')) := by
  rw [hl, List.append_nil] at hf
  have hbx := (F.box.keep hB).keep hB2
  have hne : ∀ k, w1.heap.size ≤ k → k ≠ b := fun k hk => by have := F.blt; have := F.lt; omega
  have hO2 : Kd.R k27 27 w2 w1.heap.size (fun k => k < wr.heap.size ∧ k ≠ b) v7 fs := Kd.R_below (Kd.R_mono (Kd.R_bound hO) (fun k hk => ⟨hk.2.2.1, hne k hk.2.1⟩)) hB2
  have hR2 : Kd.R ku8 5 w2 wr.heap.size (fun k => k ≠ b) (.slice A' l'.length c') l' := Kd.R_mono (Kd.R_bound hR) (fun k hk => hne k (Nat.le_trans hB.size hk.2.1))
  refine ⟨v7, A', c', wr.heap.size, by rw [hf]; rfl, Nat.le_trans F.lt hB.size, ?_, ?_, (fun h => by rw [hf] at h; cases h), ?_, ((F.els.step hB).step hB2).set _ _, fun B w0 h1 h2 => ?_⟩
  · rw [hf]
    exact Kd.R_mono (Kd.R_lower (Kd.R_far (p := ⟨b, 2, none⟩) hO2 (fun k hk => hk.2) _) F.lt) (fun k hk => hk.1)
  · rw [hf]
    exact blk_set hbx 2 (.slice A' l'.length c')
  · rw [hf]
    exact Kd.R_mono (Kd.R_far (p := ⟨b, 2, none⟩) hR2 (fun k hk => hk) _) (fun _ _ => trivial)
  · have h3 := below_then (F.bel B w0 h1 h2) (Nat.le_trans (Nat.le_trans h1 F.bb) (Nat.le_trans (Nat.le_of_lt F.blt) F.lt)) hB
    have h4 := below_then h3 (Nat.le_trans (Nat.le_trans (Nat.le_trans h1 F.bb) (Nat.le_trans (Nat.le_of_lt F.blt) F.lt)) hB.size) hB2
    exact h4.setCell (Nat.le_trans h1 F.bb) _
end Go.Proofs.Ytajlmjmhkhdmdaa.PF
