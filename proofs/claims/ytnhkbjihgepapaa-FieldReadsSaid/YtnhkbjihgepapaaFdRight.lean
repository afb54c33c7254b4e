/- field.right. -/
import Derived.Test.YtnhkbjihgepapaaPFx0
import Derived.Test.YtnhkbjihgepapaaFdOct
import Derived.Test.YtnhkbjihgepapaaGen
import Derived.Shelf.Abstract
set_option linter.unusedVariables false
set_option linter.unusedSimpArgs false
namespace Go.Proofs.Ytnhkbjihgepapaa.Fd
open Go.RowKit Go.Proofs.YtnhkbjihgepapaaW.PrintWords Go.Proofs.YtnhkbjihgepapaaW.PrintLast Go.Proofs.YtnhkbjihgepapaaW.PrintMore Go.Proofs.Ytnhkbjihgepapaa.PF Go.Proofs.Ytnhkbjihgepapaa.Gen
/-- Is a text too long? -/
def longS (t : ByteArray) : Bool := decide (65535 < t.size)
set_option maxRecDepth 100000 in
theorem long_calls (s : ByteArray) (w : World) : Calls Try.prog 50 #[.string s] w fun e w' => e = .returned (.bool (longS s)) ∧ Below w.heap.size w w' := by
  by_cases h1 : 65535 < s.size
  · have hv : Hid (longS s = true) := Lib.hid (decide_eq_true h1)
    have h2 : (65535 : Int) < (s.size : Int) := by omega
    go_enter Try.func50, Try.ntmps50
    go_wp2
    go_ret
    exact ⟨by rw [hv.out]; rfl, Below.refl _ _⟩
  · have hv : Hid (longS s = false) := Lib.hid (decide_eq_false h1)
    have h2 : ¬ (65535 : Int) < (s.size : Int) := by omega
    go_enter Try.func50, Try.ntmps50
    go_wp2
    go_ret
    exact ⟨by rw [hv.out]; rfl, Below.refl _ _⟩
set_option maxRecDepth 100000 in
set_option maxHeartbeats 1000000 in
theorem sindex_calls (l : List ByteArray) (A : Option Addr) (c : Nat) (w : World) (hr : Kd.C Kd.string w A l.length l) :
    Calls Try.prog 56 #[.slice A l.length c, .func (.func 50) #[] #[]] w fun e w' => e = .returned (.int .i64 (idxOf l longS)) ∧ Below w.heap.size w w' := by
  have hln : l.length ≤ 9223372036854775807 := hr.2.1
  have HR := Lib.hid hr
  have he : ∀ args w, (callFunc 50 args).run Try.prog w = .ok (.enter 50 args) w := enters_of Try.func50 (by kernel_rfl) rfl
  have HB0 := Lib.hid (Below.refl w.heap.size w)
  clear hr
  go_enter Try.func56, Try.ntmps56
  go_wp2
  go_loopw [8] (fun i wr => ∃ j : Nat, j ≤ l.length ∧ i = .int .i64 j ∧ Hid (∀ i (hi : i < j) (hl : i < l.length), longS l[i] = false) ∧ Hid (Below w.heap.size w wr)) (fun i _ => l.length - (intOf i).toNat)
  case atStart => exact ⟨0, Nat.zero_le _, rfl, Lib.hid (fun i hi => absurd hi (Nat.not_lt_zero _)), HB0⟩
  case round =>
    obtain ⟨j, hj, rfl, HN, HB⟩ := hrel
    by_cases hlt : j < l.length
    · obtain ⟨ad, e1, hx⟩ := Kd.at_string (Kd.C_below HR.out HB.out) (j : Int) (by omega) (by omega)
      have hrd : rdOf ByteArray.empty l (j : Int) = l[j] := by unfold rdOf; simp [List.getD, hlt]
      rw [hrd, Int.toNat_natCast] at hx
      clear hrd
      cases e1
      obtain ⟨x, hxv⟩ : ∃ x, x = l[j] := ⟨_, rfl⟩
      rw [← hxv] at hx
      have HX := Lib.hid hxv
      clear hxv
      go_wp2_with fail
      refine (long_calls x wr).mono ?_
      rintro e w1 ⟨rfl, hb⟩
      replace HB := Lib.hid (below_then HB.out HB.out.size hb)
      clear hb
      cases hp : longS x with
      | true =>
        have HI := Lib.hid (idxOf_at hlt (fun i hi => HN.out i hi (by omega)) (by rw [← HX.out]; exact hp))
        clear hp
        go_wp2
        go_ret
        exact ⟨by rw [HI.out]; rfl, HB.out⟩
      | false =>
        have HN1 : Hid (∀ i (hi : i < j + 1) (hl : i < l.length), longS l[i] = false) := Lib.hid (fun i hi hl => by
          rcases Nat.lt_succ_iff_lt_or_eq.1 hi with h | h
          · exact HN.out i h hl
          · subst h; rw [← HX.out]; exact hp)
        clear hp
        go_wp2
        go_roundw
        case rel => exact ⟨j + 1, by omega, by go_num, HN1, HB.out⟩
        case measure => simp [intOf]; omega
    · obtain rfl : j = l.length := by omega
      have HI := Lib.hid (idxOf_none (fun i hi => HN.out i hi hi))
      go_wp2
      go_ret
      exact ⟨by rw [HI.out]; rfl, HB.out⟩
set_option maxRecDepth 100000 in
theorem anyLong_calls (l : List ByteArray) (A : Option Addr) (c : Nat) (w : World) (hr : Kd.C Kd.string w A l.length l) :
    Calls Try.prog 49 #[.slice A l.length c, .func (.func 50) #[] #[]] w fun e w' => e = .returned (.bool (l.any longS)) ∧ Below w.heap.size w w' := by
  have H1 := Lib.hid (sindex_calls l A c w hr)
  clear hr
  go_enter Try.func49, Try.ntmps49
  go_wp2_with fail
  refine H1.out.mono ?_
  rintro e w1 ⟨rfl, hb⟩
  have HB := Lib.hid hb
  have HG := Lib.hid (idxOf_ge l longS)
  clear hb
  obtain ⟨i, hi⟩ : ∃ i, i = idxOf l longS := ⟨_, rfl⟩
  rw [← hi] at HG ⊢
  clear hi
  go_wp2
  go_ret
  exact ⟨by rw [← HG.out]; rfl, HB.out⟩
/-- Is a field right? -/
def rightF (kind n : Int) (s : ByteArray) (ns : List Int) (ts : List ByteArray) : Bool :=
  if kind = 1 then (n != 0) && !(!s.toList.isEmpty) && !decide (0 < ns.length) && !decide (0 < ts.length)
  else if kind = 2 then (!s.toList.isEmpty) && !(n != 0) && !decide (0 < ns.length) && !decide (0 < ts.length) && decide ((s.size : Int) ≤ 65535)
  else if kind = 3 then decide (0 < ns.length) && !(n != 0) && !(!s.toList.isEmpty) && !decide (0 < ts.length) && decide ((ns.length : Int) ≤ 256)
  else if kind = 4 then decide (0 < ts.length) && !(n != 0) && !(!s.toList.isEmpty) && !decide (0 < ns.length) && decide ((ts.length : Int) ≤ 256) && !(ts.any longS)
  else false
set_option maxRecDepth 100000 in
set_option maxHeartbeats 4000000 in
theorem right_calls (tag kind n : Int) (s : ByteArray) (A4 : Option Addr) (c4 : Nat) (ns : List Int) (A5 : Option Addr) (c5 : Nat) (ts : List ByteArray) (w : World) (hr4 : Kd.C (Kd.int .i64) w A4 ns.length ns) (hc4 : ns.length ≤ c4) (hr5 : Kd.C Kd.string w A5 ts.length ts) (hc5 : ts.length ≤ c5) :
    Calls Try.prog 28 #[.agg #[.int .u8 tag, .int .u8 kind, .int .i64 n, .string s, .slice A4 ns.length c4, .slice A5 ts.length c5]] w fun e w' => e = .returned (.bool (rightF kind n s ns ts)) ∧ Below w.heap.size w w' := by
  have HL := Lib.hid (fun W (hb : Below w.heap.size w W) => anyLong_calls ts A5 c5 W (Kd.C_below hr5 hb))
  have h9 : ns.length ≤ 9223372036854775807 := hr4.2.1
  have h9' : ts.length ≤ 9223372036854775807 := hr5.2.1
  obtain ⟨bn, hbn⟩ : ∃ b, b = (n != 0) := ⟨_, rfl⟩
  obtain ⟨bs, hbs⟩ : ∃ b, b = (!s.toList.isEmpty) := ⟨_, rfl⟩
  obtain ⟨b4, hb4⟩ : ∃ b, b = decide (0 < ns.length) := ⟨_, rfl⟩
  obtain ⟨b5, hb5⟩ : ∃ b, b = decide (0 < ts.length) := ⟨_, rfl⟩
  obtain ⟨bl, hbl⟩ : ∃ b, b = ts.any longS := ⟨_, rfl⟩
  rw [← hbl] at HL
  have HF : Hid (rightF kind n s ns ts = if kind = 1 then bn && !bs && !b4 && !b5
    else if kind = 2 then bs && !bn && !b4 && !b5 && decide ((s.size : Int) ≤ 65535)
    else if kind = 3 then b4 && !bn && !bs && !b5 && decide ((ns.length : Int) ≤ 256)
    else if kind = 4 then b5 && !bn && !bs && !b4 && decide ((ts.length : Int) ≤ 256) && !bl
    else false) := Lib.hid (by unfold rightF; rw [← hbn, ← hbs, ← hb4, ← hb5, ← hbl])
  clear hr4 hc4 hr5 hc5 hbl
  obtain ⟨m4, hm4⟩ : ∃ m, m = ns.length := ⟨_, rfl⟩
  obtain ⟨m5, hm5⟩ : ∃ m, m = ts.length := ⟨_, rfl⟩
  rw [← hm4] at HF hb4 h9 ⊢
  rw [← hm5] at HF HL hb5 h9' ⊢
  clear hm4 hm5
  have HV := Lib.hid (And.intro hbn (And.intro hbs (And.intro hb4 hb5)))
  clear hbn hbs hb4 hb5
  have HO : Hid ((w.alloc (.cells #[.int .u8 tag, .int .u8 kind, .int .i64 n, .string s, .slice A4 m4 c4, .slice A5 m5 c5] 30)).heap[w.heap.size]? = some (.cells #[.int .u8 tag, .int .u8 kind, .int .i64 n, .string s, .slice A4 m4 c4, .slice A5 m5 c5] 30 (0, 0))) := Lib.hid (heap_alloc_new w _)
  have HB := Lib.hid (below_alloc (Below.refl w.heap.size w) (.cells #[.int .u8 tag, .int .u8 kind, .int .i64 n, .string s, .slice A4 m4 c4, .slice A5 m5 c5] 30))
  go_enter Try.func28, Try.ntmps28
  go_upto_region 1 with (fail)
  generalize w.alloc _ = W at HO HB ⊢
  obtain ⟨g, hg⟩ : ∃ g, g = w.heap.size := ⟨_, rfl⟩
  rw [← hg] at HO ⊢
  clear hg
  have g2 : W.cell? ⟨g, 2, none⟩ = some (.int .i64 n) := (blk_cell HO.out 2).trans rfl
  have g3 : W.cell? ⟨g, 3, none⟩ = some (.string s) := (blk_cell HO.out 3).trans rfl
  have g4 : W.cell? ⟨g, 4, none⟩ = some (.slice A4 m4 c4) := (blk_cell HO.out 4).trans rfl
  have g5 : W.cell? ⟨g, 5, none⟩ = some (.slice A5 m5 c5) := (blk_cell HO.out 5).trans rfl
  go_cut [3, 4, 5, 6] (fun v3 v4 v5 v6 wc => v3 = .bool bn ∧ v4 = .bool bs ∧ v5 = .bool b4 ∧ v6 = .bool b5 ∧ ∃ m, wc = W.drewN m)
  case first =>
    go_quiet (fail)
    go_wp2
    go_meet
    case rel => exact ⟨by rw [HV.out.1], by rw [HV.out.2.1], by rw [HV.out.2.2.1], by rw [HV.out.2.2.2], _, rfl⟩
  case rest =>
    obtain ⟨rfl, rfl, rfl, rfl, m, rfl⟩ := hcut
    clear g2 g3 g4 g5 HV
    have HO2 := Lib.hid (blk_drewN HO.out m)
    have HB2 := Lib.hid (pw_below_drewN HB.out m)
    clear HO HB
    generalize W.drewN m = W2 at HO2 HB2 ⊢
    have g1 : W2.cell? ⟨g, 1, none⟩ = some (.int .u8 kind) := (blk_cell HO2.out 1).trans rfl
    have g3 : W2.cell? ⟨g, 3, none⟩ = some (.string s) := (blk_cell HO2.out 3).trans rfl
    have g4 : W2.cell? ⟨g, 4, none⟩ = some (.slice A4 m4 c4) := (blk_cell HO2.out 4).trans rfl
    have g5 : W2.cell? ⟨g, 5, none⟩ = some (.slice A5 m5 c5) := (blk_cell HO2.out 5).trans rfl
    by_cases k1 : kind = 1
    · subst k1
      rw [if_pos rfl] at HF
      cases bn <;> cases bs <;> cases b4 <;> cases b5
      all_goals
        go_wp2
        go_ret
        exact ⟨by rw [HF.out]; rfl, HB2.out⟩
    rw [if_neg k1] at HF
    by_cases k2 : kind = 2
    · subst k2
      rw [if_pos rfl] at HF
      cases bn <;> cases bs <;> cases b4 <;> cases b5
      all_goals
        go_wp2
        go_ret
        exact ⟨by rw [HF.out]; rfl, HB2.out⟩
    rw [if_neg k2] at HF
    by_cases k3 : kind = 3
    · subst k3
      rw [if_pos rfl] at HF
      cases bn <;> cases bs <;> cases b4 <;> cases b5
      all_goals
        go_wp2
        go_ret
        exact ⟨by rw [HF.out]; rfl, HB2.out⟩
    rw [if_neg k3] at HF
    by_cases k4 : kind = 4
    · subst k4
      rw [if_pos rfl] at HF
      go_wp2_with fail
      refine (HL.out _ HB2.out).mono ?_
      rintro e w3 ⟨rfl, hb⟩
      have HO3 := Lib.hid ((hb.block g (blk_lt HO2.out)).trans HO2.out)
      have HB3 := Lib.hid (below_then HB2.out HB2.out.size hb)
      clear hb HL g1 g3 g4 g5 HO2 HB2
      have g5 : w3.cell? ⟨g, 5, none⟩ = some (.slice A5 m5 c5) := (blk_cell HO3.out 5).trans rfl
      by_cases h256 : (m5 : Int) ≤ 256
      · rw [decide_eq_true h256] at HF
        cases bn <;> cases bs <;> cases b4 <;> cases b5
        all_goals
          go_wp2
          go_ret
          exact ⟨by rw [HF.out]; rfl, HB3.out⟩
      · rw [decide_eq_false h256] at HF
        cases bn <;> cases bs <;> cases b4 <;> cases b5
        all_goals
          go_wp2
          go_ret
          exact ⟨by rw [HF.out]; rfl, HB3.out⟩
    · rw [if_neg k4] at HF
      go_wp2
      go_ret
      exact ⟨by rw [HF.out]; rfl, HB2.out⟩
end Go.Proofs.Ytnhkbjihgepapaa.Fd
