/- OverBytes: a lent list is written over; all else stays. -/
import Derived.Test.YtajlmjmhkhdmdaaFrFed
set_option linter.unusedVariables false
set_option linter.unusedSimpArgs false
namespace Go.Proofs.Ytajlmjmhkhdmdaa.PF
open Go.RowKit Go.Proofs.YtajlmjmhkhdmdaaW.PrintWords Go.Proofs.YtajlmjmhkhdmdaaW.PrintLast Go.Proofs.YtajlmjmhkhdmdaaW.PrintMore
attribute [local go_sem] max2_int min2_int max_two min_two
def AnyByte (w : World) (e : Ending) (w' : World) : Prop := ∃ v : Int, e = .returned (.int .u8 v) ∧ w = w'
theorem mark_calls (k i : Int) (w : World) : Calls Try.prog 32 #[.int .i64 k, .int .i64 i] w (AnyByte w) := by
  go_enter Try.func32, Try.ntmps32
  go_wp2
  go_ret
  exact ⟨_, rfl, rfl⟩
structure Over (w : World) (g n : Nat) (wr : World) : Prop where
  row : ∃ cs, wr.heap[g]? = some (.cells cs 5 (0, 0)) ∧ n + 3 ≤ cs.size
  els : w.grownBy wr (some g)
theorem Over.set {w wr : World} {g n : Nat} (h : Over w g n wr) (i : Nat) (v : Value) : Over w g n (wr.setCell ⟨g, i, none⟩ v) := by
  obtain ⟨cs, h1, h2⟩ := h.row
  exact ⟨⟨_, blk_set h1 i v, by simpa using h2⟩, ⟨h.els.os, h.els.tape, h.els.output, Nat.le_trans h.els.size (Nat.le_of_eq (World.size_setCell _ _ _).symm), fun k hk hne => (Below.heap_setCell wr ⟨g, i, none⟩ v k (fun he => hne (by rw [he]))).trans (h.els.block k hk hne)⟩⟩
def Overed (w : World) (g : Nat) (e : Ending) (w' : World) : Prop := e = .returned (.tuple #[]) ∧ w.grownBy w' (some g)
set_option maxHeartbeats 2000000 in
theorem over_calls {g n cap : Nat} {w : World} {cells : Array Value} (h : w.heap[g]? = some (.cells cells 5 (0, 0))) (hs : n + 3 ≤ cells.size) (hc : n + 3 ≤ cap) (hn : n ≤ 4398046511104) :
    Calls Try.prog 22 #[.slice (some ⟨g, 0, none⟩) n cap] w (Overed w g) := by
  have H := Lib.hid (show Over w g n w from ⟨⟨cells, h, hs⟩, ⟨rfl, rfl, rfl, Nat.le_refl _, fun _ _ _ => rfl⟩⟩)
  obtain ⟨i0, hi0, _, hz1, _⟩ := info_parts Low.info8
  have hcut := Low.cut_h (P := Try.prog) 22 5 Try.underlying22 hi0 hz1 (some ⟨g, 0, none⟩) n cap (n + 3) hc
  clear h hs hi0 hz1
  go_enter Try.func22, Try.ntmps22
  go_wp2
  go_loopw [3] (fun v3 wr => ∃ i : Nat, i ≤ n + 3 ∧ v3 = .int .i64 i ∧ Hid (Over w g n wr)) (fun v3 _ => n + 3 - (intOf v3).toNat)
  case atStart => exact ⟨0, Nat.zero_le _, rfl, H⟩
  case round =>
    clear H
    obtain ⟨i, hi, rfl, H⟩ := hrel
    by_cases hlt : i < n + 3
    · obtain ⟨cs, h1, h2⟩ := H.out.row
      have hx : wr.cell? ⟨g, i, none⟩ = some (cs[i]'(by omega)) := by rw [blk_cell h1 i, Array.getElem?_eq_getElem (by omega)]
      have hxf := blk_frozen h1 i
      generalize cs[i]'(by omega) = old at hx
      have HS := Lib.hid (fun v => H.out.set i v)
      have p1 : 0 ≤ (i : Int) := by omega
      have q1 : (i : Int) < (n : Int) + 3 := by omega
      clear h1 h2
      go_wp2_with fail
      refine (mark_calls 9 i wr).mono ?_
      rintro e w1 ⟨v, rfl, rfl⟩
      go_wp2
      go_roundw
      case rel => exact ⟨i + 1, by omega, by go_num, Lib.hid (HS.out _)⟩
      case measure => simp [intOf]; omega
    · have q1 : ¬ (i : Int) < (n : Int) + 3 := by omega
      go_wp2
      go_end0
      exact ⟨rfl, H.out.els⟩
end Go.Proofs.Ytajlmjmhkhdmdaa.PF
