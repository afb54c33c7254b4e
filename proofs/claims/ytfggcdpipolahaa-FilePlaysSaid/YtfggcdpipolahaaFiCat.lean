/- slices.Grow of nothing, slices.Concat of two rows of bytes. -/
import Derived.Test.YtfggcdpipolahaaLow
import Derived.Test.YtfggcdpipolahaaWZeros
import Derived.Test.YtfggcdpipolahaaWMore
import Derived.Test.YtfggcdpipolahaaWLast
set_option linter.unusedVariables false
set_option linter.unusedSimpArgs false
namespace Go.Proofs.Ytfggcdpipolahaa.PF
open Go.RowKit Go.Proofs.YtfggcdpipolahaaW.PrintWords Go.Proofs.YtfggcdpipolahaaW.PrintLast Go.Proofs.YtfggcdpipolahaaW.PrintMore
attribute [local go_sem] max2_int min2_int max_two min_two
abbrev ku8 : Kd Int := Kd.int .u8
set_option maxRecDepth 100000 in
theorem grow_calls (n : Nat) (hn : n ≤ 140737488355328) (w : World) : Calls Try.prog 60 #[.slice none 0 0, .int .i64 n] w fun e w' => ∃ A c, e = .returned (.slice A 0 c) ∧ Kd.R ku8 5 w' w.heap.size (fun _ => True) (.slice A 0 c) [] ∧ Below w.heap.size w w' := by
  obtain ⟨i0, hi, _, hz1, _⟩ := info_parts Low.info8
  by_cases h0 : n = 0
  · subst h0
    go_enter Try.func60, Try.ntmps60
    go_wp2
    go_ret
    exact ⟨none, 0, rfl, Kd.R_nil _ _ _ _ _, Below.refl _ _⟩
  · have p0 : ¬ ((n : Int) < 0) := by omega
    have p1 : (0 : Int) < n := by omega
    have e1 : (n : Int).toNat = n := Int.toNat_natCast n
    go_enter Try.func60, Try.ntmps60
    go_wp2_with ((with_reducible refine gate_builtin (b := .append) (xs := #[.tmp 20, .tmp 21]) rfl ?_); at_builtin; refine Kd.R_append_zeros ku8 (w0 := w) w.heap.size rfl (.tmp 20) (.tmp 21) 24 3 5 (.int .u8 0) 1 rfl Try.underlying24 Try.underlying3 (by kernel_rfl) rfl (by decide) (by decide) (.slice none 0 0) [] (0 : Int) (n : Int) (fun _ => True) rfl rfl rfl (fun _ _ => trivial) (Kd.R_nil _ _ _ _ _) (by omega) (Below.refl _ _) (Nat.le_refl _) (by simp only [List.length_nil, e1]; omega) ?_; intro v1 w1 ho hb _ _; obtain ⟨A, c, hv⟩ := Kd.R_slice ho; subst hv; have HO := Lib.hid ho; have HB := Lib.hid hb; have hcut := Low.cut_h (P := Try.prog) 24 5 Try.underlying24 hi hz1 A ([] ++ List.replicate (n : Int).toNat (0 : Int)).length c 0 (by omega); clear ho hb)
    go_ret
    exact ⟨A, c, rfl, Kd.R_take HO.out (Nat.zero_le _), HB.out⟩
def szs (a b : Nat) (k : Nat) : Nat := if k = 0 then 0 else if k = 1 then a else a + b
def pre (l m : List Int) (k : Nat) : List Int := if k = 0 then [] else if k = 1 then l else l ++ m
set_option maxRecDepth 100000 in
set_option maxHeartbeats 2000000 in
theorem concat_calls {A1 A2 : Option Addr} {c1 c2 g : Nat} {l m : List Int} {w : World} (hg : w.heap[g]? = some (.cells #[.slice A1 l.length c1, .slice A2 m.length c2] 24 (0, 0))) (h1 : Kd.C ku8 w A1 l.length l) (h2 : Kd.C ku8 w A2 m.length m) (hl : l.length + m.length ≤ 4398046511104) :
    Calls Try.prog 51 #[.slice (some ⟨g, 0, none⟩) 2 2] w fun e w' => ∃ A c, e = .returned (.slice A (l ++ m).length c) ∧ Kd.R ku8 5 w' w.heap.size (fun _ => True) (.slice A (l ++ m).length c) (l ++ m) ∧ Below w.heap.size w w' := by
  have HG := Lib.hid hg
  have H1 := Lib.hid h1
  have H2 := Lib.hid h2
  clear hg h1 h2
  go_enter Try.func51, Try.ntmps51
  go_wp2
  go_loopw [3, 11] (fun v3 v11 wr => ∃ k : Nat, k ≤ 2 ∧ v3 = .int .i64 (szs l.length m.length k : Nat) ∧ v11 = .int .i64 k ∧ Hid (w = wr)) (fun _ v11 _ => 2 - (intOf v11).toNat)
  case atStart => exact ⟨0, by omega, rfl, rfl, Lib.hid rfl⟩
  case round =>
    obtain ⟨k, hk, rfl, rfl, HW⟩ := hrel
    obtain rfl := HW.out
    clear HW
    have g0 : w.cell? ⟨g, 0, none⟩ = some (.slice A1 l.length c1) := (blk_cell HG.out 0).trans rfl
    have g1 : w.cell? ⟨g, 1, none⟩ = some (.slice A2 m.length c2) := (blk_cell HG.out 1).trans rfl
    match k, hk with
    | 0, _ =>
      have v1 : IntKind.i64.wrap (((szs l.length m.length 0 : Nat) : Int) + (l.length : Int)) = ((szs l.length m.length 1 : Nat) : Int) := by rw [IntKind.wrap_i64]; simp [szs]; omega
      have p1 : ¬ (((szs l.length m.length 1 : Nat) : Int) < 0) := by omega
      have hl1 : l.length ≤ 9223372036854775807 := by omega
      go_wp2
      go_roundw
      case rel => exact ⟨1, by omega, rfl, rfl, Lib.hid trivial⟩
      case measure => simp [intOf]
    | 1, _ =>
      have v1 : IntKind.i64.wrap (((szs l.length m.length 1 : Nat) : Int) + (m.length : Int)) = ((szs l.length m.length 2 : Nat) : Int) := by rw [IntKind.wrap_i64]; simp [szs]; omega
      have p1 : ¬ (((szs l.length m.length 2 : Nat) : Int) < 0) := by omega
      have hl1 : m.length ≤ 9223372036854775807 := by omega
      go_wp2
      go_roundw
      case rel => exact ⟨2, by omega, rfl, rfl, Lib.hid trivial⟩
      case measure => simp [intOf]
    | 2, _ =>
      have HGr := Lib.hid (grow_calls (szs l.length m.length 2) (by simp [szs]; omega) w)
      go_wp2_with fail
      refine HGr.out.mono ?_
      rintro e w1 ⟨A, c, rfl, hR, hb⟩
      have HR := Lib.hid hR
      have HB := Lib.hid hb
      clear hR hb HGr g0 g1
      go_wp2
      go_loopw [6, 27] (fun v6 v27 wr => ∃ k : Nat, k ≤ 2 ∧ v27 = .int .i64 k ∧ Hid (Kd.R ku8 5 wr w.heap.size (fun _ => True) v6 (pre l m k)) ∧ Hid (Below w.heap.size w wr)) (fun _ v27 _ => 2 - (intOf v27).toNat)
      case atStart => exact ⟨0, by omega, rfl, HR, HB⟩
      case round =>
        clear HR HB
        obtain ⟨k, hk, rfl, HR, HB⟩ := hrel
        have g0 : wr.cell? ⟨g, 0, none⟩ = some (.slice A1 l.length c1) := (blk_cell (blk_below HG.out HB.out) 0).trans rfl
        have g1 : wr.cell? ⟨g, 1, none⟩ = some (.slice A2 m.length c2) := (blk_cell (blk_below HG.out HB.out) 1).trans rfl
        match k, hk with
        | 0, _ =>
          have e0 : pre l m 0 ++ l = pre l m 1 := rfl
          go_wp2_with ((with_reducible refine gate_builtin (b := .append) (xs := #[.tmp 31, .tmp 32]) rfl ?_); at_builtin; refine Kd.R_append_rows ku8 (w0 := w) w.heap.size rfl (.tmp 31) (.tmp 32) 24 5 (.int .u8 0) 1 rfl Try.underlying24 Low.info8 rfl (by decide) (by omega) u6 (pre l m 0) l _ _ _ (fun _ => True) (fun _ => False) rfl rfl HR.out (Kd.C_below H1.out HB.out) (fun _ _ h => h) (fun _ h => h.elim) (fun _ _ => trivial) HB.out HB.out.size (by show (0 + l.length) * 1 ≤ _; omega) ?_; intro v w3 ho hb _ _; rw [e0] at ho; have HRn := Lib.hid ho; have HBn := Lib.hid hb; clear ho hb)
          go_roundw
          case rel => exact ⟨1, by omega, rfl, HRn, HBn⟩
          case measure => simp [intOf]
        | 1, _ =>
          have e0 : pre l m 1 ++ m = pre l m 2 := rfl
          go_wp2_with ((with_reducible refine gate_builtin (b := .append) (xs := #[.tmp 31, .tmp 32]) rfl ?_); at_builtin; refine Kd.R_append_rows ku8 (w0 := w) w.heap.size rfl (.tmp 31) (.tmp 32) 24 5 (.int .u8 0) 1 rfl Try.underlying24 Low.info8 rfl (by decide) (by omega) u6 (pre l m 1) m _ _ _ (fun _ => True) (fun _ => False) rfl rfl HR.out (Kd.C_below H2.out HB.out) (fun _ _ h => h) (fun _ h => h.elim) (fun _ _ => trivial) HB.out HB.out.size (by show (l.length + m.length) * 1 ≤ _; omega) ?_; intro v w3 ho hb _ _; rw [e0] at ho; have HRn := Lib.hid ho; have HBn := Lib.hid hb; clear ho hb)
          go_roundw
          case rel => exact ⟨2, by omega, rfl, HRn, HBn⟩
          case measure => simp [intOf]
        | 2, _ =>
          obtain ⟨A6, c6, hv⟩ := Kd.R_slice HR.out
          subst hv
          go_wp2
          go_ret
          exact ⟨A6, c6, rfl, HR.out, HB.out⟩
end Go.Proofs.Ytfggcdpipolahaa.PF
