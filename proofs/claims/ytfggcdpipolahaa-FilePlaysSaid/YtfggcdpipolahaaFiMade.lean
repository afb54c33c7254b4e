/- musterlow.Made, musterlow.Pick. -/
import Derived.Test.YtfggcdpipolahaaFiMany
import Derived.Test.YtfggcdpipolahaaOctAdd
set_option linter.unusedVariables false
set_option linter.unusedSimpArgs false
namespace Go.Proofs.Ytfggcdpipolahaa.PF
open Go.RowKit Go.Proofs.YtfggcdpipolahaaW.PrintWords Go.Proofs.YtfggcdpipolahaaW.PrintLast Go.Proofs.YtfggcdpipolahaaW.PrintMore
attribute [local go_sem] max2_int min2_int max_two min_two
theorem pick_any (a : Int) (n : Nat) (h0 : 1 ≤ n) (hn : n ≤ 4398046511104) : ∃ k : Nat, k < n ∧ ∀ w, Calls Try.prog 18 #[.int .i64 a, .int .i64 n] w fun e w' => e = .returned (.int .i64 k) ∧ w = w' := by
  have h1 : -(n : Int) < Int.tmod a n ∧ Int.tmod a n < n := by
    have := Int.tmod_lt_of_pos a (show (0 : Int) < n by omega)
    have h2 := Int.tmod_lt_of_pos (-a) (show (0 : Int) < n by omega)
    rw [Int.neg_tmod] at h2
    exact ⟨by omega, this⟩
  have hn0 : ¬ (n : Int) ≤ 0 := by omega
  have hn1 : ((n : Int) == 0) = false := by simp; omega
  have hn2 : ¬ (n : Int) = 0 := by omega
  generalize hr : Int.tmod a n = r at h1
  by_cases hneg : r < 0
  · obtain ⟨k, hk⟩ := Int.eq_ofNat_of_zero_le (show 0 ≤ r + n by omega)
    refine ⟨k, by omega, fun w => ?_⟩
    have v1 : IntKind.i64.wrap (r + n) = k := by rw [IntKind.wrap_i64]; omega
    clear hk h1
    go_enter Try.func18, Try.ntmps18
    go_wp2
    go_ret
    exact ⟨rfl, rfl⟩
  · obtain ⟨k, hk⟩ := Int.eq_ofNat_of_zero_le (show 0 ≤ r by omega)
    refine ⟨k, by omega, fun w => ?_⟩
    have hp : ¬ (k : Int) < 0 := by omega
    subst hk
    clear h1 hneg
    go_enter Try.func18, Try.ntmps18
    go_wp2
    go_ret
    exact ⟨rfl, rfl⟩
def mstep (x : Int) : Int := IntKind.u64.wrap (IntKind.u64.wrap (x * 2862933555777941757) + 3037000493)
def mAt (s : Int) : Nat → Int
  | 0 => mstep (IntKind.u64.wrap s)
  | i + 1 => if (i : Int) % 8 = 0 then mstep (mAt s i) else mAt s i
def mByte (s : Int) (i : Nat) : Int := IntKind.u8.wrap (mAt s (i + 1) / 1099511627776)
def madeL (s : Int) (n : Nat) : List Int := (List.range n).map (mByte s)
theorem madeL_length (s : Int) (n : Nat) : (madeL s n).length = n := by unfold madeL; rw [List.length_map, List.length_range]
theorem madeL_succ (s : Int) (n : Nat) : madeL s (n + 1) = madeL s n ++ [mByte s n] := by unfold madeL; rw [List.range_succ, List.map_append]; rfl
theorem wrap_u8_range (x : Int) : 0 ≤ IntKind.u8.wrap x ∧ IntKind.u8.wrap x ≤ 255 := by
  rw [IntKind.wrap_u8]
  omega
theorem madeL_bytes (s : Int) (n : Nat) : ∀ x ∈ madeL s n, 0 ≤ x ∧ x ≤ 255 := by
  intro x hx
  obtain ⟨i, _, rfl⟩ := List.mem_map.1 hx
  exact wrap_u8_range _
structure MI (w : World) (g n : Nat) (s : Int) (i : Nat) (L : List Int) (wr : World) : Prop where
  row : wr.heap[g]? = some (.cells (encs (Value.int .u8) L).toArray 5 (0, 0))
  len : L.length = n
  pre : L.take i = madeL s i
  bel : Below w.heap.size w wr
theorem MI.set {w wr : World} {g n : Nat} {s : Int} {i : Nat} {L : List Int} (h : MI w g n s i L wr) (hg : w.heap.size ≤ g) (hi : i < n) : MI w g n s (i + 1) (L.set i (mByte s i)) (wr.setCell ⟨g, i, none⟩ (.int .u8 (mByte s i))) := by
  have hl := h.len
  refine ⟨?_, by rw [List.length_set]; exact hl, ?_, h.bel.setCell hg _⟩
  · have := blk_set h.row i (.int .u8 (mByte s i))
    rw [this]
    congr 2
    apply Array.ext'
    simp [encs, List.map_set]
  · rw [madeL_succ, ← h.pre, List.take_set, List.take_add_one, List.getElem?_eq_getElem (by omega)]
    simp only [Option.toList_some]
    rw [List.set_append, if_neg (by rw [List.length_take]; omega)]
    have : i - (L.take i).length = 0 := by rw [List.length_take]; omega
    rw [this]
    rfl
set_option maxHeartbeats 4000000 in
theorem made_calls (s : Int) (n : Nat) (w : World) (hn : n ≤ 1099511627776) : Calls Try.prog 10 #[.int .i64 s, .int .i64 n] w fun e w' => ∃ A c, e = .returned (.slice A (madeL s n).length c) ∧ Kd.R ku8 5 w' w.heap.size (fun _ => True) (.slice A (madeL s n).length c) (madeL s n) ∧ Below w.heap.size w w' := by
  have hmk : ∀ u : World, (Instr.makeSlice 24 (.int .i64 n) (.int .i64 n)).run Try.prog u = .ok (.slice (some ⟨u.heap.size, 0, none⟩) n n) (u.alloc (.cells (madeCells #[.int .u8 0] n) 5)) := fun u => by
    obtain ⟨i0, hi, hz0, hz1, hz2⟩ := info_parts Low.info8
    have hmk := run_make (P := Try.prog) u 24 5 i0 (.int .u8 0) Try.underlying24 hi hz0 .i64 .i64 n n (by omega) (by omega) (by rw [hz2]; omega) (by omega)
    rw [hz1, Int.toNat_natCast, Nat.mul_one] at hmk
    exact hmk
  have hl1 : n ≤ 9223372036854775807 := by omega
  go_enter Try.func10, Try.ntmps10
  go_wp2
  have H : Hid (MI w w.heap.size n s 0 (List.replicate n 0) (w.alloc (.cells (madeCells #[.int .u8 0] n) 5))) := Lib.hid ⟨by
    rw [heap_alloc_new]
    congr 2
    apply Array.ext'
    rw [toList_madeCells_one]
    simp [encs], List.length_replicate, rfl, below_alloc (Below.refl _ _) _⟩
  generalize w.alloc (.cells (madeCells #[.int .u8 0] n) 5) = W at H ⊢
  obtain ⟨g, hg⟩ : ∃ g, g = w.heap.size := ⟨_, rfl⟩
  rw [← hg] at H ⊢
  have HG := Lib.hid hg
  clear hg
  go_loopw [6, 7] (fun v6 v7 wr => ∃ (i : Nat) (L : List Int), i ≤ n ∧ v6 = .int .u64 (mAt s i) ∧ v7 = .int .i64 i ∧ Hid (MI w g n s i L wr)) (fun _ v7 _ => n - (intOf v7).toNat)
  case atStart => exact ⟨0, _, Nat.zero_le _, rfl, rfl, H⟩
  case round =>
    clear H
    obtain ⟨i, L, hi, rfl, rfl, H⟩ := hrel
    by_cases hlt : i < n
    · have hx : wr.cell? ⟨g, i, none⟩ = some (.int .u8 (L[i]'(by rw [H.out.len]; exact hlt))) := by rw [blk_cell H.out.row i]; simp [encs, H.out.len, hlt]
      have hxf := blk_frozen H.out.row i
      generalize L[i]'(by rw [H.out.len]; exact hlt) = old at hx
      have HS := Lib.hid (fun (v : Int) (hv : v = mByte s i) => (show MI w g n s (i + 1) (L.set i (mByte s i)) (wr.setCell ⟨g, i, none⟩ (.int .u8 v)) from hv ▸ H.out.set (Nat.le_of_eq HG.out.symm) hlt))
      obtain ⟨y, hy⟩ : ∃ y, y = mAt s i := ⟨_, rfl⟩
      have HY := Lib.hid hy
      rw [← hy]
      by_cases h8 : (i : Int) % 8 = 0
      · have HN := Lib.hid (show mAt s (i + 1) = mstep y by rw [hy]; exact if_pos h8)
        have h8' : Int.tmod i 8 = 0 := by rw [Int.tmod_eq_emod_of_nonneg (by omega)]; exact h8
        clear hy
        go_wp2
        go_roundw
        case rel => exact ⟨i + 1, L.set i (mByte s i), by omega, by rw [HN.out]; rfl, by go_num, Lib.hid (HS.out _ (by unfold mByte; rw [HN.out, IntKind.wrap_u8]; rfl))⟩
        case measure => simp [intOf]; omega
      · have HN := Lib.hid (show mAt s (i + 1) = y by rw [hy]; exact if_neg h8)
        have h8' : ¬ Int.tmod i 8 = 0 := by rw [Int.tmod_eq_emod_of_nonneg (by omega)]; exact h8
        have h8'' : (((i : Int) % 8) == 0) = false := by simp [h8]
        clear hy
        go_wp2
        go_roundw
        case rel => exact ⟨i + 1, L.set i (mByte s i), by omega, by rw [HN.out], by go_num, Lib.hid (HS.out _ (by unfold mByte; rw [HN.out, IntKind.wrap_u8]))⟩
        case measure => simp [intOf]; omega
    · have hin : i = n := by omega
      go_wp2
      go_ret
      have hL : L = madeL s n := by
        have h := H.out.pre
        rw [hin, List.take_of_length_le (Nat.le_of_eq H.out.len)] at h
        exact h
      have hr : Kd.R ku8 5 wr w.heap.size (fun _ => True) (.slice (some ⟨g, 0, none⟩) n n) L := by
        refine Kd.R_of_own ?_ (fun _ _ => trivial)
        rw [H.out.len]
        refine ⟨by simp [encs, H.out.len], .inr ⟨g, n, _, rfl, Nat.le_of_eq HG.out.symm, H.out.row, Nat.le_refl _, by unfold maxLen; omega, by simp [encs, H.out.len], ?_⟩⟩
        simp [encs]
        rw [List.take_of_length_le (by rw [List.length_map, H.out.len]; exact Nat.le_refl _)]
      rw [hL] at hr
      have e : n = (madeL s n).length := (madeL_length s n).symm
      refine ⟨some ⟨g, 0, none⟩, n, ?_, ?_, H.out.bel⟩
      · rw [← e]
        rfl
      · rw [← e]
        exact hr
end Go.Proofs.Ytfggcdpipolahaa.PF
