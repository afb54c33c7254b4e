/- The document's reader of frames: Feed, walked. -/
import Derived.Test.YtajlmjmhkhdmdaaFrWalk
import Derived.Test.YtajlmjmhkhdmdaaFrFed
set_option linter.unusedVariables false
set_option linter.unusedSimpArgs false
namespace Go.Proofs.Ytajlmjmhkhdmdaa.PF
open Go.RowKit Go.Proofs.YtajlmjmhkhdmdaaW.PrintWords Go.Proofs.YtajlmjmhkhdmdaaW.PrintLast Go.Proofs.YtajlmjmhkhdmdaaW.PrintMore
attribute [local go_sem] max2_int min2_int max_two min_two
/-- What the document's reader is then. -/
def refS (br : Bool) (l x : List Int) : Fs := if br = true then ([], true, l) else feedF (l ++ x)
def RefFed (w : World) (F : Fs) (e : Ending) (w' : World) : Prop := ∃ A' c' Av cv, e = .returned (.tuple #[.agg #[.slice A' F.2.2.length c', .bool F.2.1], .slice Av F.1.length cv, .int .i64 (if F.2.1 = true then 30 else 0)]) ∧
  Kd.C ku8 w' A' F.2.2.length F.2.2 ∧ F.2.2.length ≤ c' ∧ Kd.R k27 27 w' w.heap.size (fun _ => True) (.slice Av F.1.length cv) F.1 ∧ (F.2.1 = false → ∀ ad, A' = some ad → 0 < F.2.2.length → w.heap.size ≤ ad.block) ∧ Below w.heap.size w w'
theorem infoRd : (Try.prog.info? 47).map (·.size) = some 2 := by kernel_rfl
/-- The result's box, and all that was. -/
structure RB4 (w w1 : World) (b4 : Nat) : Prop where
  box : w1.heap[b4]? = some (.cells #[.slice none 0 0, .bool false] 47 (0, 0))
  hi : w.heap.size ≤ b4
  bel : Below w.heap.size w w1
theorem RB4.keep {w w1 w2 : World} {b4 : Nat} (h : RB4 w w1 b4) (hb : Below w1.heap.size w1 w2) : RB4 w w2 b4 := ⟨blk_below h.box hb, h.hi, below_then h.bel h.bel.size hb⟩
theorem RB4.cells {w w1 : World} {b4 : Nat} (h : RB4 w w1 b4) : (w1.cell? ⟨b4, 0, none⟩ = some (.slice none 0 0) ∧ w1.frozen? ⟨b4, 0, none⟩ = false) ∧ w1.cell? ⟨b4, 1, none⟩ = some (.bool false) ∧ w1.frozen? ⟨b4, 1, none⟩ = false :=
  ⟨⟨(blk_cell h.box 0).trans rfl, blk_frozen h.box 0⟩, (blk_cell h.box 1).trans rfl, blk_frozen h.box 1⟩
theorem add_blk (a : Addr) (k : Nat) : (a.add k).block = a.block := by
  unfold Addr.add
  split <;> rfl
theorem C_far {W : World} {A : Option Addr} {xs : List Int} (h : Kd.C ku8 W A xs.length xs) (b : Nat) (hb : ∀ ad, A = some ad → 0 < xs.length → ad.block ≠ b) (o : Nat) (v : Value) : Kd.C ku8 (W.setCell ⟨b, o, none⟩ v) A xs.length xs := by
  refine ⟨rfl, h.2.1, fun hp => ?_⟩
  obtain ⟨ad, e, hc⟩ := h.2.2 hp
  refine ⟨ad, e, fun j p hj => ?_⟩
  obtain ⟨cs, h1, h2, h3⟩ := hc j p hj
  refine ⟨cs, h1, h2, fun i u hu => ?_⟩
  have hne : (ad.add (j * ku8.sz + i)).block ≠ b := by rw [add_blk]; exact hb ad e hp
  exact (World.cell?_of_block (Below.heap_setCell W ⟨b, o, none⟩ v _ hne)).trans (h3 i u hu)
/-- Bytes do not lie in a box of a slice and a bool. -/
theorem C_not {W : World} {A : Option Addr} {xs : List Int} {b : Nat} {s : Value} {q : Bool} (h : Kd.C ku8 W A xs.length xs) (hs : ∀ n : Int, s ≠ .int .u8 n) (hbx : W.heap[b]? = some (.cells #[s, .bool q] 47 (0, 0))) : ∀ ad, A = some ad → 0 < xs.length → ad.block ≠ b := by
  intro ad e hp he
  obtain ⟨ad2, e2, hx⟩ := Kd.at_int h 0 (by decide) (by omega)
  rw [e] at e2
  cases e2
  have hx0 : W.cell? (ad.add 0) = some (.int .u8 (rd xs 0)) := hx
  have hz : ad.add 0 = ad := by simp [Addr.add]
  rw [hz] at hx0
  unfold World.cell? at hx0
  rw [he, hbx] at hx0
  simp only at hx0
  split at hx0
  · cases hx0
  · match ho : ad.off with
    | 0 => rw [ho] at hx0; exact hs _ (Option.some.inj hx0)
    | 1 => rw [ho] at hx0; cases hx0
    | n + 2 => rw [ho] at hx0; simp at hx0
/-- It answers: the frames so far, what is left. -/
theorem ref_done {w w1 wr : World} {b4 : Nat} {al l' : List Int} {fs : List Fr} {A6 : Option Addr} {c6 : Nat} {v8 : Value} (H : RB4 w w1 b4) (hlt : b4 < w1.heap.size) (L : FL w1 al l' fs A6 c6 v8 wr) (br : Bool) (r : List Int) (A' : Option Addr) (c' : Nat)
    (hl : feedF l' = ([], br, r)) (hC : Kd.C ku8 wr A' r.length r) (hc : r.length ≤ c') (er : Int) (he : (if br = true then (30 : Int) else 0) = er) (hA : br = false → ∀ ad, A' = some ad → w.heap.size ≤ ad.block) :
    RefFed w (feedF al) (.returned (.tuple #[.agg #[.slice A' r.length c', .bool br], v8, .int .i64 er])) ((wr.setCell ⟨b4, 0, none⟩ (.slice A' r.length c')).setCell ⟨b4, 1, none⟩ (.bool br)) ∧
    ((wr.setCell ⟨b4, 0, none⟩ (.slice A' r.length c')).setCell ⟨b4, 1, none⟩ (.bool br)).heap[b4]? = some (.cells #[.slice A' r.length c', .bool br] 47 (0, 0)) := by
  have hf := L.fd
  rw [hl, List.append_nil] at hf
  have H2 := H.keep L.bel
  have hbx := blk_set (blk_set H2.box 0 (.slice A' r.length c')) 1 (.bool br)
  refine ⟨?_, hbx⟩
  obtain ⟨Av, cv, rfl⟩ := Kd.R_slice L.own
  have hO2 : Kd.R k27 27 wr w1.heap.size (fun k => k ≠ b4) (.slice Av fs.length cv) fs := Kd.R_mono (Kd.R_bound L.own) (fun k hk => by have := hk.2.1; omega)
  have hO3 := (Kd.R_far (p := ⟨b4, 1, none⟩) (Kd.R_far (p := ⟨b4, 0, none⟩) hO2 (fun k hk => hk) (.slice A' r.length c')) (fun k hk => hk) (.bool br))
  have hne := C_not hC (fun n h => by cases h) H2.box
  have hC2 := C_far (C_far hC b4 hne 0 (.slice A' r.length c')) b4 hne 1 (.bool br)
  have hb0 : w.heap.size ≤ b4 := H.hi
  refine ⟨A', c', Av, cv, ?_, ?_, ?_, ?_, ?_, ?_⟩
  · rw [hf, ← he]
  · rw [hf]; exact hC2
  · rw [hf]; exact hc
  · rw [hf]; exact Kd.R_mono (Kd.R_lower hO3 H.bel.size) (fun _ _ => trivial)
  · rw [hf]; exact fun hb ad ha _ => hA hb ad ha
  · exact (H2.bel.setCell hb0 _).setCell hb0 _
end Go.Proofs.Ytajlmjmhkhdmdaa.PF
