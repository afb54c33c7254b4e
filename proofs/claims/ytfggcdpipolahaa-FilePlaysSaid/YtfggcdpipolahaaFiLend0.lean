/- A list that is lent, and written over when it comes back; what is kept meanwhile. -/
import Derived.Test.YtfggcdpipolahaaFiMem
set_option linter.unusedVariables false
set_option linter.unusedSimpArgs false
namespace Go.Proofs.Ytfggcdpipolahaa.PF
open Go.RowKit Go.Proofs.YtfggcdpipolahaaW.PrintWords Go.Proofs.YtfggcdpipolahaaW.PrintLast Go.Proofs.YtfggcdpipolahaaW.PrintMore
attribute [local go_sem] max2_int min2_int max_two min_two
theorem own_R {w : World} {base : Nat} {ok : Nat → Prop} {v : Value} {l : List Int} (h : Kd.R ku8 5 w base ok v l) : Kd.R ku8 5 w base (fun k => some k = v.ownBlock) v l :=
  ⟨fun k hk => hk.symm, h.2.imp_ (fun _ _ hp => hp)⟩
def AnyByteL (w : World) (e : Ending) (w' : World) : Prop := ∃ v : Int, e = .returned (.int .u8 v) ∧ w = w'
theorem markL_calls (k i : Int) (w : World) : Calls Try.prog 34 #[.int .i64 k, .int .i64 i] w (AnyByteL w) := by
  go_enter Try.func34, Try.ntmps34
  go_wp2
  go_ret
  exact ⟨_, rfl, rfl⟩
structure Over (w : World) (g n : Nat) (wr : World) : Prop where
  row : ∃ cs, wr.heap[g]? = some (.cells cs 5 (0, 0)) ∧ n + 3 ≤ cs.size
  els : w.grownBy wr (some g)
theorem Over.set {w wr : World} {g n : Nat} (h : Over w g n wr) (i : Nat) (v : Value) : Over w g n (wr.setCell ⟨g, i, none⟩ v) := by
  obtain ⟨cs, h1, h2⟩ := h.row
  exact ⟨⟨_, blk_set h1 i v, by simpa using h2⟩, ⟨h.els.os, h.els.tape, h.els.output, Nat.le_trans h.els.size (Nat.le_of_eq (World.size_setCell _ _ _).symm), fun k hk hne => (Below.heap_setCell wr ⟨g, i, none⟩ v k (fun he => hne (by rw [he]))).trans (h.els.block k hk hne)⟩⟩
def Overed (w : World) (g : Nat) (e : Ending) (w' : World) : Prop := e = .returned (.tuple #[]) ∧ w.grownBy w' (some g)
set_option maxHeartbeats 2000000 in
theorem over_calls {g n cap : Nat} {w : World} {cells : Array Value} (h : w.heap[g]? = some (.cells cells 5 (0, 0))) (hs : n + 3 ≤ cells.size) (hc : n + 3 ≤ cap) (hn : n ≤ 4398046511104) :
    Calls Try.prog 42 #[.slice (some ⟨g, 0, none⟩) n cap] w (Overed w g) := by
  have H := Lib.hid (show Over w g n w from ⟨⟨cells, h, hs⟩, ⟨rfl, rfl, rfl, Nat.le_refl _, fun _ _ _ => rfl⟩⟩)
  obtain ⟨i0, hi0, _, hz1, _⟩ := info_parts Low.info8
  have hcut := Low.cut_h (P := Try.prog) 24 5 Try.underlying24 hi0 hz1 (some ⟨g, 0, none⟩) n cap (n + 3) hc
  clear h hs hi0 hz1
  go_enter Try.func42, Try.ntmps42
  go_wp2
  go_loopw [3] (fun v3 wr => ∃ i : Nat, i ≤ n + 3 ∧ v3 = .int .i64 i ∧ Hid (Over w g n wr)) (fun v3 _ => n + 3 - (intOf v3).toNat)
  case atStart => exact ⟨0, Nat.zero_le _, rfl, H⟩
  case round =>
    clear H
    obtain ⟨i, hi, rfl, H⟩ := hrel
    by_cases hlt : i < n + 3
    · obtain ⟨cs, h1, h2⟩ := H.out.row
      have hx : wr.cell? ⟨g, i, none⟩ = some (cs[i]'(by omega)) := by rw [blk_cell h1 i, Array.getElem?_eq_getElem (by omega)]
      have hxf := blk_frozen h1 i
      generalize cs[i]'(by omega) = old at hx
      have HS := Lib.hid (fun v => H.out.set i v)
      have p1 : 0 ≤ (i : Int) := by omega
      have q1 : (i : Int) < (n : Int) + 3 := by omega
      clear h1 h2
      go_wp2_with fail
      refine (markL_calls 9 i wr).mono ?_
      rintro e w1 ⟨v, rfl, rfl⟩
      go_wp2
      go_roundw
      case rel => exact ⟨i + 1, by omega, by go_num, Lib.hid (HS.out _)⟩
      case measure => simp [intOf]; omega
    · have q1 : ¬ (i : Int) < (n : Int) + 3 := by omega
      go_wp2
      go_end0
      exact ⟨rfl, H.out.els⟩
/-- A lent list, owned: its block. -/
structure LentO (w : World) (g cap : Nat) (l : List Int) : Prop where
  own : Kd.R ku8 5 w 0 (fun k => k = g) (.slice (some ⟨g, 0, none⟩) (l.length + 3) cap) (l ++ [77, 78, 79])
theorem LentO.lent {w : World} {g cap : Nat} {l : List Int} (h : LentO w g cap l) : Low.Lent w ⟨g, 0, none⟩ cap l := by
  obtain ⟨ad, c, hv, hc, hC⟩ := Low.lent_of h.own
  injection hv with h1 h2 h3
  injection h1 with h1
  subst h1; subst h3
  exact ⟨hc, hC⟩
theorem LentO.row {w : World} {g cap : Nat} {l : List Int} (h : LentO w g cap l) : ∃ cells, w.heap[g]? = some (.cells cells 5 (0, 0)) ∧ l.length + 3 ≤ cells.size := by
  obtain ⟨inner, ho⟩ := Kd.R_own h.own
  rcases ho.2 with ⟨hv, _⟩ | ⟨g', cap', cur, hv, hb, hh, hnc, hcm, hcs, ht⟩
  · cases hv
  · injection hv with h1 h2 h3
    injection h1 with h1
    injection h1 with h1
    subst h1
    have e : (l ++ [77, 78, 79]).length = l.length + 3 := by simp
    rw [e] at hnc
    refine ⟨cur, hh, ?_⟩
    have : cur.size = cap' * 1 := hcs
    omega
theorem LentO.step {w w' : World} {g cap : Nat} {l : List Int} (h : LentO w g cap l) (hb : w'.heap[g]? = w.heap[g]?) : LentO w' g cap l := ⟨Kd.R_step h.own (fun k hk _ => by rw [hk]; exact hb)⟩
set_option maxHeartbeats 1000000 in
theorem lentO_calls (A : Option Addr) (c : Nat) (l : List Int) (w : World) (hr : Kd.C ku8 w A l.length l) (hl : l.length ≤ 140737488355325) :
    Calls Try.prog 39 #[.slice A l.length c] w fun e w' => ∃ g cap, e = .returned (.slice (some ⟨g, 0, none⟩) l.length cap) ∧ w.heap.size ≤ g ∧ l.length + 3 ≤ cap ∧ LentO w' g cap l ∧ Below w.heap.size w w' := by
  have H := Lib.hid (Low.copy_calls A c l w hr (by omega))
  clear hr
  go_enter Try.func39, Try.ntmps39
  go_wp2_with fail
  refine H.out.mono ?_
  rintro e w1 ⟨v0, rfl, ho0, hb0⟩
  have HO0 := Lib.hid ho0
  have HB0 := Lib.hid hb0
  have hs0 := hb0.size
  clear ho0 hb0
  obtain ⟨i0, hi, _, hz1, _⟩ := info_parts Low.info8
  go_wp2_with ((with_reducible refine gate_builtin (b := .append) (xs := #[.tmp 5, .tmp 6]) rfl ?_); at_builtin; refine Kd.R_append_rows ku8 (w0 := w) w.heap.size rfl (.tmp 5) (.tmp 6) 24 5 (.int .u8 0) 1 rfl Try.underlying24 Low.info8 rfl (by decide) (by omega) v0 l ([77, 78, 79] : List Int) _ _ _ (fun _ => True) (fun _ => False) rfl rfl (Kd.R_alloc HO0.out _) (Low.const_reads w1 [77, 78, 79] (0, 0) (by decide)) (fun _ _ h => h) (fun _ h => h.elim) (fun _ _ => trivial) (below_alloc HB0.out _) (by simp; omega) (by simp; omega) ?_; intro v w3 ho hb _ _; obtain ⟨ad, c1, hv, hc1, hC⟩ := Low.lent_of ho; subst hv; obtain ⟨g, hg⟩ := Kd.R_head ho; subst hg; have hcut := Low.cut_h (P := Try.prog) 24 5 Try.underlying24 hi hz1 (some ⟨g, 0, none⟩) (l.length + 3) c1 l.length (by omega); have HB := Lib.hid hb; have HC := Lib.hid (And.intro ho hc1); clear ho hb hC hc1)
  go_ret
  refine ⟨g, c1, rfl, Kd.R_base HC.out.1 g (by simp [Value.ownBlock]), HC.out.2, ⟨?_⟩, HB.out⟩
  refine Kd.R_lower (Kd.R_mono (own_R HC.out.1) (fun k hk => ?_)) (Nat.zero_le _)
  simp [Value.ownBlock] at hk
  exact hk
end Go.Proofs.Ytfggcdpipolahaa.PF
