/- quota.find, quota.limit: closures through the library. (A part of the print PT.) -/
import Derived.Test.YtcnobkcddgcifaaTree
set_option linter.unusedVariables false
set_option linter.unusedSimpArgs false
namespace Go.Proofs.Ytcnobkcddgcifaa.PT
open Go.RowKit Go.Proofs.YtcnobkcddgcifaaW.PrintWords Go.Proofs.YtcnobkcddgcifaaW.PrintLast Go.Proofs.YtcnobkcddgcifaaW.PrintMore Go.Proofs.Ytcnobkcddgcifaa.Gen
/-- Is a quality called so? -/
def isQ (name : ByteArray) (x : S59) : Bool := x.f0.toList == name.toList
set_option maxRecDepth 100000 in
theorem qfind1_calls (x : S59) (name : ByteArray) (b : Nat) (w : World) (h : w.cell? ⟨b, 0, none⟩ = some (.string name)) :
    Calls Try.prog 57 #[.agg #[.string x.f0, .int .i64 x.f1, .int .i64 x.f2, .int .i64 x.f3], .pointer (some ⟨b, 0, none⟩)] w fun e w' => e = .returned (.bool (isQ name x)) ∧ Below w.heap.size w w' := by
  have ho : ∀ o, (w.alloc o).cell? ⟨b, 0, none⟩ = some (.string name) := fun o => ((below_alloc (Below.refl _ w) o).cell (World.block_lt_of_cell? w _ h)).trans h
  have HB := Lib.hid (below_alloc (Below.refl _ w) (.cells #[.string x.f0, .int .i64 x.f1, .int .i64 x.f2, .int .i64 x.f3] 59))
  clear h
  go_enter Try.func57, Try.ntmps57
  go_wp2
  go_ret
  exact ⟨rfl, HB.out⟩
set_option maxRecDepth 100000 in
theorem qfind_calls (l : List S59) (A : Option Addr) (c : Nat) (name : ByteArray) (w : World) (hr : Kd.C k59 w A l.length l) (hc : l.length ≤ c) :
    Calls Try.prog 33 #[.slice A l.length c, .string name] w fun e w' => e = .returned (.int .i64 (idxOf l (isQ name))) ∧ Below w.heap.size w w' := by
  have he : ∀ args w, (callFunc 57 args).run Try.prog w = .ok (.enter 57 args) w := enters_of Try.func57 (by kernel_rfl) rfl
  have hmf : ∀ (fn : Fn) (first cap : Array Value) (w : World), (Instr.makeFunc fn first cap).run Try.prog w = .ok (.func fn first cap) w := fun _ _ _ _ => rfl
  have H := Lib.hid (fun (W : World) (hW : Below w.heap.size w W) (b : Nat) (h1 : W.cell? ⟨b, 0, none⟩ = some (.string name)) =>
    index59 k59 rfl l A c W 57 #[.pointer (some ⟨b, 0, none⟩)] (isQ name) (Kd.C_below hr hW) hc he (fun x _ cs w' hb hK => by
      obtain rfl := k59_open hK
      exact qfind1_calls x name b w' ((hb.cell (World.block_lt_of_cell? W _ h1)).trans h1)))
  clear hr hc he
  go_enter Try.func33, Try.ntmps33
  go_wp2_with fail
  have hB := below_alloc (Below.refl _ w) (.cells #[.string name] 9)
  refine (H.out _ hB w.heap.size (new_one w _ _)).mono ?_
  rintro e w1 ⟨rfl, hb⟩
  have HB := Lib.hid (below_then hB hB.size hb)
  clear hb H hB
  go_wp2
  go_ret
  exact ⟨rfl, HB.out⟩
/-! ### limits -/
def overQ (n : Int) : Bool := decide (n < -1 ∨ 1073741824 < n)
def limQ (l : List Int) : Bool := !(l.any overQ)
set_option maxRecDepth 100000 in
theorem over_calls (n : Int) (w : World) : Calls Try.prog 61 #[.int .i64 n] w fun e w' => e = .returned (.bool (overQ n)) ∧ Below w.heap.size w w' := by
  by_cases h1 : n < -1
  · have hv : Hid (overQ n = true) := Lib.hid (decide_eq_true (.inl h1))
    go_enter Try.func61, Try.ntmps61
    go_wp2
    go_ret
    exact ⟨by rw [hv.out]; rfl, Below.refl _ _⟩
  · by_cases h2 : 1073741824 < n
    · have hv : Hid (overQ n = true) := Lib.hid (decide_eq_true (.inr h2))
      go_enter Try.func61, Try.ntmps61
      go_wp2
      go_ret
      exact ⟨by rw [hv.out]; rfl, Below.refl _ _⟩
    · have hv : Hid (overQ n = false) := Lib.hid (decide_eq_false (by omega))
      go_enter Try.func61, Try.ntmps61
      go_wp2
      go_ret
      exact ⟨by rw [hv.out]; rfl, Below.refl _ _⟩
set_option maxRecDepth 100000 in
set_option maxHeartbeats 1000000 in
theorem iindex_calls (l : List Int) (A : Option Addr) (c : Nat) (w : World) (hr : Kd.C (Kd.int .i64) w A l.length l) :
    Calls Try.prog 71 #[.slice A l.length c, .func (.func 61) #[] #[]] w fun e w' => e = .returned (.int .i64 (idxOf l overQ)) ∧ Below w.heap.size w w' := by
  have hln : l.length ≤ 9223372036854775807 := hr.2.1
  have HR := Lib.hid hr
  have he : ∀ args w, (callFunc 61 args).run Try.prog w = .ok (.enter 61 args) w := enters_of Try.func61 (by kernel_rfl) rfl
  have HB0 := Lib.hid (Below.refl w.heap.size w)
  clear hr
  go_enter Try.func71, Try.ntmps71
  go_wp2
  go_loopw [8] (fun i wr => ∃ j : Nat, j ≤ l.length ∧ i = .int .i64 j ∧ Hid (∀ i (hi : i < j) (hl : i < l.length), overQ l[i] = false) ∧ Hid (Below w.heap.size w wr)) (fun i _ => l.length - (intOf i).toNat)
  case atStart => exact ⟨0, Nat.zero_le _, rfl, Lib.hid (fun i hi => absurd hi (Nat.not_lt_zero _)), HB0⟩
  case round =>
    obtain ⟨j, hj, rfl, HN, HB⟩ := hrel
    by_cases hlt : j < l.length
    · obtain ⟨ad, e1, hx⟩ := Kd.at_int (Kd.C_below HR.out HB.out) (j : Int) (by omega) (by omega)
      have hrd : rd l (j : Int) = l[j] := by unfold rd; simp [List.getD, hlt]
      rw [hrd, Int.toNat_natCast] at hx
      clear hrd
      cases e1
      obtain ⟨x, hxv⟩ : ∃ x, x = l[j] := ⟨_, rfl⟩
      rw [← hxv] at hx
      have HX := Lib.hid hxv
      clear hxv
      go_wp2_with fail
      refine (over_calls x wr).mono ?_
      rintro e w1 ⟨rfl, hb⟩
      replace HB := Lib.hid (below_then HB.out HB.out.size hb)
      clear hb
      cases hp : overQ x with
      | true =>
        have HI := Lib.hid (idxOf_at hlt (fun i hi => HN.out i hi (by omega)) (by rw [← HX.out]; exact hp))
        clear hp
        go_wp2
        go_ret
        exact ⟨by rw [HI.out]; rfl, HB.out⟩
      | false =>
        have HN1 : Hid (∀ i (hi : i < j + 1) (hl : i < l.length), overQ l[i] = false) := Lib.hid (fun i hi hl => by
          rcases Nat.lt_succ_iff_lt_or_eq.1 hi with h | h
          · exact HN.out i h hl
          · subst h; rw [← HX.out]; exact hp)
        clear hp
        go_wp2
        go_roundw
        case rel => exact ⟨j + 1, by omega, by go_num, HN1, HB.out⟩
        case measure => simp [intOf]; omega
    · obtain rfl : j = l.length := by omega
      have HI := Lib.hid (idxOf_none (fun i hi => HN.out i hi hi))
      go_wp2
      go_ret
      exact ⟨by rw [HI.out]; rfl, HB.out⟩
set_option maxRecDepth 100000 in
theorem limit_calls (l : List Int) (A : Option Addr) (c : Nat) (w : World) (hr : Kd.C (Kd.int .i64) w A l.length l) (hc : l.length ≤ c) :
    Calls Try.prog 38 #[.slice A l.length c] w fun e w' => e = .returned (.bool (limQ l)) ∧ Below w.heap.size w w' := by
  have H1 := Lib.hid (iindex_calls l A c w hr)
  clear hr hc
  go_enter Try.func38, Try.ntmps38
  go_wp2_with fail
  have H2 : Calls Try.prog 60 #[.slice A l.length c, .func (.func 61) #[] #[]] w fun e w' => e = .returned (.bool (l.any overQ)) ∧ Below w.heap.size w w' := by
    go_enter Try.func60, Try.ntmps60
    go_wp2_with fail
    refine H1.out.mono ?_
    rintro e w1 ⟨rfl, hb⟩
    have HB := Lib.hid hb
    have HG := Lib.hid (idxOf_ge l overQ)
    clear hb
    obtain ⟨i, hi⟩ : ∃ i, i = idxOf l overQ := ⟨_, rfl⟩
    rw [← hi] at HG ⊢
    clear hi
    go_wp2
    go_ret
    exact ⟨by rw [← HG.out]; rfl, HB.out⟩
  refine H2.mono ?_
  rintro e w1 ⟨rfl, hb⟩
  have HB := Lib.hid hb
  have HV : Hid (limQ l = !(l.any overQ)) := Lib.hid rfl
  clear hb H1
  obtain ⟨t, ht⟩ : ∃ t, t = l.any overQ := ⟨_, rfl⟩
  rw [← ht] at HV ⊢
  clear ht
  go_wp2
  go_ret
  exact ⟨by rw [HV.out]; rfl, HB.out⟩
end Go.Proofs.Ytcnobkcddgcifaa.PT
