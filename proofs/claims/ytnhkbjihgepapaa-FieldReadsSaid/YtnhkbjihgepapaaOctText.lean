/- The walks of the octets' writers and texts, and of the document's. No conditions but the arguments' kinds. -/
import Derived.Test.YtnhkbjihgepapaaOctNum
set_option linter.unusedVariables false
set_option linter.unusedSimpArgs false
namespace Go.Proofs.Ytnhkbjihgepapaa.Oct
open Go.RowKit Go.Proofs.YtnhkbjihgepapaaW.PrintWords Go.Proofs.YtnhkbjihgepapaaW.PrintMore

/-- New bytes: the old ones, and some behind. -/
def NewBytes (w : World) (xs : List Int) (e : Ending) (w' : World) : Prop := ∃ v0 : Value, e = .returned v0 ∧ Kd.R (Kd.int .u8) 5 w' w.heap.size (fun _ => True) v0 xs ∧ Below w.heap.size w w'

section
variable (A : Option Addr) (c : Nat) (l : List Int) (v : Int) (w : World) (hr : Kd.C (Kd.int .u8) w A l.length l) (hl : l.length ≤ 140737488355320) (hv : 0 ≤ v)
include hr hl hv
set_option maxHeartbeats 400000 in
theorem add16_calls (hv1 : v < 65536) : Calls Try.prog 48 #[.slice A l.length c, .int .u16 v] w (NewBytes w (l ++ be v 2)) := by
  have H := Lib.hid (add_calls v 2 A c l w hv (by omega) (by decide) hr hl)
  clear hr hl
  go_enter Try.func48, Try.ntmps48
  go_wp2_with (go_at_call 55; refine H.out.mono ?_; rintro e w' ⟨v0, rfl, ho, hb⟩; have HO := Lib.hid ho; have HB := Lib.hid hb; clear ho hb)
  go_ret
  exact ⟨_, rfl, HO.out, HB.out⟩
set_option maxHeartbeats 400000 in
theorem add64_calls (hv1 : v < 18446744073709551616) : Calls Try.prog 46 #[.slice A l.length c, .int .u64 v] w (NewBytes w (l ++ be v 8)) := by
  have H := Lib.hid (add_calls v 8 A c l w hv hv1 (by decide) hr hl)
  clear hr hl hv1
  go_enter Try.func46, Try.ntmps46
  go_wp2_with (go_at_call 55; refine H.out.mono ?_; rintro e w' ⟨v0, rfl, ho, hb⟩; have HO := Lib.hid ho; have HB := Lib.hid hb; clear ho hb)
  go_ret
  exact ⟨_, rfl, HO.out, HB.out⟩
end

/-- The bytes that a text behind bytes makes. -/
def addText (l : List Int) (s : ByteArray) : List Int := l ++ be s.size 2 ++ bytesOf s

set_option maxHeartbeats 1000000 in
theorem addText_yes (A : Option Addr) (c : Nat) (l : List Int) (s : ByteArray) (w : World) (hr : Kd.C (Kd.int .u8) w A l.length l) (hl : l.length ≤ 140737488289790) (hs : s.size ≤ 65535) :
    Calls Try.prog 47 #[.slice A l.length c, .string s] w fun e w' => ∃ v0 : Value, e = .returned (.tuple #[v0, .int .i64 0]) ∧ Kd.R (Kd.int .u8) 5 w' w.heap.size (fun _ => True) v0 (addText l s) ∧ Below w.heap.size w w' := by
  have H := Lib.hid (add_calls s.size 2 A c l w (by omega) (by omega) (by decide) hr (by omega))
  clear hr
  go_enter Try.func47, Try.ntmps47
  go_wp2_with fail
  refine H.out.mono ?_
  rintro e w1 ⟨v0, rfl, ho, hb⟩
  have HO := Lib.hid ho
  have HB := Lib.hid hb
  clear ho hb
  go_wp2_with ((with_reducible refine gate_builtin (b := .append) (xs := #[.tmp 13, .tmp 14]) rfl ?_); at_builtin; refine print_append_str (w0 := w) w.heap.size rfl (.tmp 13) (.tmp 14) 22 9 5 rfl Try.underlying22 Try.underlying9 Low.info8 v0 (l ++ be s.size 2) s rfl rfl (Kd.own_of_R HO.out) HB.out HB.out.size (by rw [List.length_append, be_length]; omega) ?_; intro v1 w2 ho hb _; have HO2 := Lib.hid ho; have HB2 := Lib.hid hb; clear ho hb)
  go_ret2
  exact ⟨_, rfl, Kd.R_of_own HO2.out (fun _ _ => trivial), HB2.out⟩
set_option maxHeartbeats 400000 in
theorem addText_no (A : Option Addr) (c : Nat) (l : List Int) (s : ByteArray) (w : World) (hs : 65535 < s.size) :
    Calls Try.prog 47 #[.slice A l.length c, .string s] w fun e w' => e = .returned (.tuple #[.slice none 0 0, .int .i64 3]) ∧ w = w' := by
  go_enter Try.func47, Try.ntmps47
  go_wp2
  go_ret2
  exact ⟨rfl, rfl⟩

/-- May a text be read at a place? -/
def tok (l : List Int) (i : Int) : Bool := nok l i 2 && decide (i + 2 + nv l i 2 ≤ l.length)
def txt (l : List Int) (i : Int) : List Int := if tok l i = true then (l.drop (i.toNat + 2)).take (nv l i 2).toNat else []
def tend (l : List Int) (i : Int) : Int := if tok l i = true then i + 2 + nv l i 2 else 0
def Texts (l : List Int) (i : Int) (w : World) (e : Ending) (w' : World) : Prop := e = .returned (.tuple #[.string (strOfNums (txt l i)), .int .i64 (tend l i), .bool (tok l i)]) ∧ w = w'

theorem cut_lh {P : Program} (t e : TypeId) {i : TypeInfo} (ht : P.underlying t = some (.slice e)) (hi : P.info? e = some i) (hsz : i.size = 1) (A : Option Addr) (n c m k : Nat) (hm : m ≤ k) (hk : k ≤ c) (W : World) :
    (Instr.slice t (.slice A n c) (some (.int .i64 (m : Int))) (some (.int .i64 (k : Int))) none).run P W = .ok (.slice (if c = m then A else A.map (·.add m)) (k - m) (c - m)) W := by
  have hel : P.elem t = e := by simp [Program.elem, ht]
  have hu : P.underlying t = some (.slice (P.elem t)) := by rw [hel]; exact ht
  rw [run_slice_lh W t A n c hu .i64 .i64 (m : Int) (k : Int) (by omega) (by omega) (by omega), hel]
  simp [sizeOf, typeInfo, hi, hsz, sliced, Result.andThen]
theorem seg_C {w : World} {A : Option Addr} {l : List Int} {c : Nat} (h : Kd.C (Kd.int .u8) w A l.length l) (hc : l.length ≤ c) (m k : Nat) (hm : m ≤ k) (hk : k ≤ l.length) :
    Kd.C (Kd.int .u8) w (if c = m then A else A.map (·.add m)) (k - m) ((l.drop m).take (k - m)) :=
  Kd.C_of_reads (d := 0) (h1 := fun _ => rfl) (((Kd.reads_of_C h).drop_ m (by omega) hc).take_ (k - m) (by omega))

set_option maxHeartbeats 1000000 in
set_option maxRecDepth 100000 in
theorem text_calls (A : Option Addr) (c : Nat) (l : List Int) (i : Int) (w : World) (hr : Kd.C (Kd.int .u8) w A l.length l) (hc : l.length ≤ c) (hb : ∀ x ∈ l, 0 ≤ x ∧ x ≤ 255) (hl : l.length ≤ 140737488355328) (hi : I64 i) :
    Calls Try.prog 32 #[.slice A l.length c, .int .i64 i] w (Texts l i w) := by
  have H := Lib.hid (u16_calls A c l i w hr hb hl hi)
  have hv := nv_range l hb i 2
  have hi0 := hi.1
  have hi1 := hi.2
  by_cases hk : nok l i 2 = true
  · have hk2 := hk
    simp only [nok, Bool.and_eq_true, decide_eq_true_eq] at hk2
    by_cases ht : i + 2 + nv l i 2 ≤ l.length
    · have e1 : tok l i = true := by unfold tok; rw [hk, decide_eq_true ht]; rfl
      have e3 : tend l i = i + 2 + nv l i 2 := by unfold tend; rw [if_pos e1]
      obtain ⟨p, rfl⟩ := Int.eq_ofNat_of_zero_le hk2.1
      have e2 : txt l p = (l.drop (p + 2)).take (nv l p 2).toNat := by unfold txt; rw [if_pos e1]; rfl
      have T : Hid (∀ w', Texts l p w (.returned (.tuple #[.string (strOfNums ((l.drop (p + 2)).take (nv l p 2).toNat)), .int .i64 ((p : Int) + 2 + nv l p 2), .bool true])) w' ↔ w = w') := fun w' => by unfold Texts; rw [e1, e2, e3]; exact ⟨fun h => h.2, fun h => ⟨rfl, h⟩⟩
      rw [hk] at H
      generalize nv l p 2 = v at H ht hv T
      have hv0 := hv.1
      have hv1 : v < 65536 := hv.2
      obtain ⟨i0, hi, _, hz1, _⟩ := info_parts Low.info8
      have hcut : ∀ W, (Instr.slice 22 (.slice A l.length c) (some (.int .i64 ((p : Int) + 2))) (some (.int .i64 ((p : Int) + 2 + v))) none).run Try.prog W = .ok (.slice (if c = p + 2 then A else A.map (·.add (p + 2))) v.toNat (c - (p + 2))) W := fun W => by
        have h := cut_lh (P := Try.prog) 22 5 Try.underlying22 hi hz1 A l.length c (p + 2) (p + 2 + v.toNat) (by omega) (by omega) W
        rw [show p + 2 + v.toNat - (p + 2) = v.toNat by omega, show (((p + 2 + v.toNat : Nat)) : Int) = (p : Int) + 2 + v by omega] at h
        exact h
      have hseg := seg_C hr hc (p + 2) (p + 2 + v.toNat) (by omega) (by omega)
      rw [show p + 2 + v.toNat - (p + 2) = v.toNat by omega] at hseg
      have hstr := Kd.C_string (P := Try.prog) (c := c - (p + 2)) Try.underlying22 Try.underlying5 Try.underlying9 hseg
      obtain ⟨B, hB⟩ : ∃ B, B = (if c = p + 2 then A else A.map (·.add (p + 2))) := ⟨_, rfl⟩
      rw [← hB] at hcut hstr
      obtain ⟨q, hq⟩ : ∃ q, q = v.toNat := ⟨_, rfl⟩
      rw [← hq] at hcut hstr T
      have hgt : ¬ (l.length : Int) - p - 2 < v := by omega
      clear hr hb hk e1 e2 e3 hi hB hseg hq hv
      go_enter Try.func32, Try.ntmps32
      go_wp2_with (go_at_call 52; refine H.out.mono ?_; rintro e w' ⟨rfl, rfl⟩)
      go_ret3
      exact (T.out _).2 rfl
    · have e1 : tok l i = false := by unfold tok; rw [decide_eq_false ht]; simp
      have e2 : txt l i = [] := by unfold txt; simp [e1]
      have e3 : tend l i = 0 := by unfold tend; simp [e1]
      have T : Hid (∀ w', Texts l i w (.returned (.tuple #[.string ⟨#[]⟩, .int .i64 0, .bool false])) w' ↔ w = w') := fun w' => by unfold Texts; rw [e1, e2, e3]; exact ⟨fun h => h.2, fun h => ⟨rfl, h⟩⟩
      rw [hk] at H
      generalize nv l i 2 = v at *
      have hgt : (l.length : Int) - i - 2 < v := by omega
      have hv0 := hv.1
      have hv1 : v < 65536 := hv.2
      clear hr hb hk e1 e2 e3 hi
      go_enter Try.func32, Try.ntmps32
      go_wp2_with (go_at_call 52; refine H.out.mono ?_; rintro e w' ⟨rfl, rfl⟩)
      go_ret3
      exact (T.out _).2 rfl
  · have e1 : tok l i = false := by unfold tok; simp [hk]
    have e2 : txt l i = [] := by unfold txt; simp [e1]
    have e3 : tend l i = 0 := by unfold tend; simp [e1]
    rw [Bool.not_eq_true] at hk
    have T : Hid (∀ w', Texts l i w (.returned (.tuple #[.string ⟨#[]⟩, .int .i64 0, .bool false])) w' ↔ w = w') := fun w' => by unfold Texts; rw [e1, e2, e3]; exact ⟨fun h => h.2, fun h => ⟨rfl, h⟩⟩
    rw [hk] at H
    clear hr hb hk e1 e2 e3 hi
    generalize nv l i 2 = v at *
    go_enter Try.func32, Try.ntmps32
    go_wp2_with (go_at_call 52; refine H.out.mono ?_; rintro e w' ⟨rfl, rfl⟩)
    go_ret3
    exact (T.out _).2 rfl
set_option maxHeartbeats 1000000 in
set_option maxRecDepth 100000 in
theorem refText_calls (A : Option Addr) (c : Nat) (l : List Int) (i : Int) (w : World) (hr : Kd.C (Kd.int .u8) w A l.length l) (hc : l.length ≤ c) (hb : ∀ x ∈ l, 0 ≤ x ∧ x ≤ 255) (hl : l.length ≤ 140737488355328) (hi : I64 i) :
    Calls Try.prog 54 #[.slice A l.length c, .int .i64 i] w (Texts l i w) := by
  have H := Lib.hid (refNumber_calls A c l i 2 w hr hb hl (by decide) (by decide) hi.1 hi.2)
  have hv := nv_range l hb i 2
  have hi0 := hi.1
  have hi1 := hi.2
  by_cases hk : nok l i 2 = true
  · have hk2 := hk
    simp only [nok, Bool.and_eq_true, decide_eq_true_eq] at hk2
    by_cases ht : i + 2 + nv l i 2 ≤ l.length
    · have e1 : tok l i = true := by unfold tok; rw [hk, decide_eq_true ht]; rfl
      have e3 : tend l i = i + 2 + nv l i 2 := by unfold tend; rw [if_pos e1]
      obtain ⟨p, rfl⟩ := Int.eq_ofNat_of_zero_le hk2.1
      have e2 : txt l p = (l.drop (p + 2)).take (nv l p 2).toNat := by unfold txt; rw [if_pos e1]; rfl
      have T : Hid (∀ w', Texts l p w (.returned (.tuple #[.string (strOfNums ((l.drop (p + 2)).take (nv l p 2).toNat)), .int .i64 ((p : Int) + 2 + nv l p 2), .bool true])) w' ↔ w = w') := fun w' => by unfold Texts; rw [e1, e2, e3]; exact ⟨fun h => h.2, fun h => ⟨rfl, h⟩⟩
      rw [hk] at H
      generalize nv l p 2 = v at H ht hv T
      have hv0 := hv.1
      have hv1 : v < 65536 := hv.2
      obtain ⟨i0, hi, _, hz1, _⟩ := info_parts Low.info8
      have hcut : ∀ W, (Instr.slice 22 (.slice A l.length c) (some (.int .i64 ((p : Int) + 2))) (some (.int .i64 ((p : Int) + 2 + v))) none).run Try.prog W = .ok (.slice (if c = p + 2 then A else A.map (·.add (p + 2))) v.toNat (c - (p + 2))) W := fun W => by
        have h := cut_lh (P := Try.prog) 22 5 Try.underlying22 hi hz1 A l.length c (p + 2) (p + 2 + v.toNat) (by omega) (by omega) W
        rw [show p + 2 + v.toNat - (p + 2) = v.toNat by omega, show (((p + 2 + v.toNat : Nat)) : Int) = (p : Int) + 2 + v by omega] at h
        exact h
      have hseg := seg_C hr hc (p + 2) (p + 2 + v.toNat) (by omega) (by omega)
      rw [show p + 2 + v.toNat - (p + 2) = v.toNat by omega] at hseg
      have hstr := Kd.C_string (P := Try.prog) (c := c - (p + 2)) Try.underlying22 Try.underlying5 Try.underlying9 hseg
      obtain ⟨B, hB⟩ : ∃ B, B = (if c = p + 2 then A else A.map (·.add (p + 2))) := ⟨_, rfl⟩
      rw [← hB] at hcut hstr
      obtain ⟨q, hq⟩ : ∃ q, q = v.toNat := ⟨_, rfl⟩
      rw [← hq] at hcut hstr T
      have hgt : ¬ (l.length : Int) - p - 2 < v := by omega
      have hw : IntKind.i64.wrap v = v := by simp [IntKind.wrap, IntKind.bits, IntKind.signed]; omega
      clear hr hb hk e1 e2 e3 hi hB hseg hq hv
      go_enter Try.func54, Try.ntmps54
      go_wp2_with (go_at_call 53; refine H.out.mono ?_; rintro e w' ⟨rfl, rfl⟩)
      go_ret3
      exact (T.out _).2 rfl
    · have e1 : tok l i = false := by unfold tok; rw [decide_eq_false ht]; simp
      have e2 : txt l i = [] := by unfold txt; simp [e1]
      have e3 : tend l i = 0 := by unfold tend; simp [e1]
      have T : Hid (∀ w', Texts l i w (.returned (.tuple #[.string ⟨#[]⟩, .int .i64 0, .bool false])) w' ↔ w = w') := fun w' => by unfold Texts; rw [e1, e2, e3]; exact ⟨fun h => h.2, fun h => ⟨rfl, h⟩⟩
      rw [hk] at H
      generalize nv l i 2 = v at *
      have hgt : (l.length : Int) - i - 2 < v := by omega
      have hv0 := hv.1
      have hv1 : v < 65536 := hv.2
      clear hr hb hk e1 e2 e3 hi
      go_enter Try.func54, Try.ntmps54
      go_wp2_with (go_at_call 53; refine H.out.mono ?_; rintro e w' ⟨rfl, rfl⟩)
      go_ret3
      exact (T.out _).2 rfl
  · have e1 : tok l i = false := by unfold tok; simp [hk]
    have e2 : txt l i = [] := by unfold txt; simp [e1]
    have e3 : tend l i = 0 := by unfold tend; simp [e1]
    rw [Bool.not_eq_true] at hk
    have T : Hid (∀ w', Texts l i w (.returned (.tuple #[.string ⟨#[]⟩, .int .i64 0, .bool false])) w' ↔ w = w') := fun w' => by unfold Texts; rw [e1, e2, e3]; exact ⟨fun h => h.2, fun h => ⟨rfl, h⟩⟩
    rw [hk] at H
    clear hr hb hk e1 e2 e3 hi
    generalize nv l i 2 = v at *
    go_enter Try.func54, Try.ntmps54
    go_wp2_with (go_at_call 53; refine H.out.mono ?_; rintro e w' ⟨rfl, rfl⟩)
    go_ret3
    exact (T.out _).2 rfl

/-- The bytes of a number, the lowest first. -/
def le (v : Int) (n : Nat) : List Int := (List.range n).map fun i => v / 2 ^ (8 * i) % 256
theorem le_length (v : Int) (n : Nat) : (le v n).length = n := by simp [le]
theorem le_snoc (v : Int) (n j : Nat) (h : j < n) : (le v n).take (j + 1) = (le v n).take j ++ [v / 2 ^ (8 * j) % 256] := by
  rw [List.take_succ_eq_append_getElem (by rw [le_length]; exact h)]
  simp [le]
theorem le_at (v : Int) (n i : Nat) (h : i < n) : rd (le v n) (i : Int) = v / 2 ^ (8 * i) % 256 := by
  rw [Low.rd_nat]; simp [le, h]
theorem wrap_div (x : Int) (h0 : 0 ≤ x) (h1 : x < 18446744073709551616) : IntKind.u64.wrap (x.tdiv 256) = x / 256 := by
  rw [Int.tdiv_eq_ediv_of_nonneg h0]
  simp [IntKind.wrap, IntKind.bits, IntKind.signed]; omega
theorem wrap_mod (x : Int) (h0 : 0 ≤ x) : x.tmod 256 % 256 = x % 256 := by
  rw [Int.tmod_eq_emod_of_nonneg h0]; omega
theorem div_step (v : Int) (j : Nat) : v / 2 ^ (8 * j) / 256 = v / 2 ^ (8 * (j + 1)) := by
  rw [Int.ediv_ediv_of_nonneg (Int.pow_nonneg (by decide))]
  congr 1
  rw [show 8 * (j + 1) = 8 * j + 8 by omega, Int.pow_add]
  rfl

set_option maxHeartbeats 1000000 in
theorem refAdd_calls (v : Int) (n : Nat) (A : Option Addr) (c : Nat) (l : List Int) (w : World) (hv : 0 ≤ v) (hv1 : v < 18446744073709551616) (hn : n ≤ 8) (hn1 : 1 ≤ n) (hr : Kd.C (Kd.int .u8) w A l.length l) (hl : l.length ≤ 140737488355320) :
    Calls Try.prog 36 #[.slice A l.length c, .int .u64 v, .int .i64 n] w (NewBytes w (l ++ be v n)) := by
  have HR := Lib.hid hr
  have HV : Hid (v < 18446744073709551616) := hv1
  clear hr hv1
  go_enter Try.func36, Try.ntmps36
  go_wp2
  go_loopw [1, 7, 8] (fun x u i wr => ∃ j : Nat, j ≤ n ∧ i = .int .i64 j ∧ x = .int .u64 (v / 2 ^ (8 * j)) ∧ Hid (Kd.R (Kd.int .u8) 5 wr w.heap.size (fun _ => True) u ((le v n).take j)) ∧ Hid (Below w.heap.size w wr)) (fun _ _ i _ => n - (intOf i).toNat)
  case atStart => exact ⟨0, Nat.zero_le _, rfl, by simp, by rw [List.take_zero]; exact Kd.R_nil _ _ _ _ _, Below.refl _ _⟩
  case round =>
    obtain ⟨j, hj, rfl, rfl, HR1, HB1⟩ := hrel
    by_cases hlt : j < n
    · have HS := Lib.hid (le_snoc v n j hlt)
      have HD := Lib.hid (div_step v j)
      have HT := Lib.hid (show ((le v n).take j).length ≤ 8 by rw [List.length_take, le_length]; omega)
      have hx0 : 0 ≤ v / 2 ^ (8 * j) := Int.ediv_nonneg hv (Int.pow_nonneg (by decide))
      have hx1 : v / 2 ^ (8 * j) < 18446744073709551616 := Int.lt_of_le_of_lt (Int.ediv_le_self _ hv) HV.out
      generalize v / 2 ^ (8 * j) = x at *
      have HX := Lib.hid (wrap_div x hx0 hx1)
      have HM := Lib.hid (wrap_mod x hx0)
      clear hx1 hx0
      go_wp2_with ((with_reducible refine gate_builtin (b := .append) (xs := #[.tmp 16, .tmp 20]) rfl ?_); at_builtin; refine Kd.R_append (Kd.int .u8) (w0 := w) w.heap.size rfl (.tmp 16) (.tmp 20) 22 5 (.int .u8 0) 1 rfl Try.underlying22 Low.info8 rfl (by decide) (by omega) _ ((le v n).take j) _ _ (fun _ => True) (fun _ => False) rfl rfl rfl (fun _ hk => hk.elim) (fun _ _ => trivial) HR1.out HB1.out HB1.out.size (by have := HT.out; omega) ?_; intro v1 w2 ho hb _ _; have HO2 := Lib.hid ho; have HB2 := Lib.hid hb; clear ho hb)
      go_roundw
      case rel => exact ⟨j + 1, by omega, by go_num, congrArg (Value.int .u64) (HX.out.trans HD.out), by rw [HS.out, ← HM.out]; exact HO2.out, HB2.out⟩
      case measure => simp [intOf]; omega
    · obtain rfl : j = n := by omega
      have hr1 := HR1.out
      rw [List.take_of_length_le (by rw [le_length]; omega)] at hr1
      obtain ⟨Al, cl, hvl, hcl, hCl⟩ := Kd.R_reads hr1
      rw [le_length] at hvl hCl
      obtain ⟨ad, ead, _⟩ := Kd.at_int hCl 0 (by omega) (by omega)
      subst ead hvl
      obtain ⟨ok, hok⟩ : ∃ ok : Nat → Prop, ok = fun k => some k ≠ (Value.slice (some ad) j cl).ownBlock := ⟨_, rfl⟩
      have HL := Lib.hid hr1
      have hlt := Kd.R_lt hr1
      have HF := Lib.hid (show ∀ k, wr.heap.size ≤ k → ok k by
        intro k hk; rw [hok]; intro e; have := hlt k e.symm; omega)
      have HOK := Lib.hid (show ∀ k, ok k → some k ≠ some ad.block by intro k hk; rw [hok] at hk; exact hk)
      clear hr1 hCl HR1 hok hlt
      go_wp2_with ((with_reducible refine gate_builtin (b := .append) (xs := #[.tmp 24, .tmp 25]) rfl ?_); at_builtin; refine Kd.R_append_rows (Kd.int .u8) (w0 := w) w.heap.size rfl (.tmp 24) (.tmp 25) 22 5 (.int .u8 0) 1 rfl Try.underlying22 Low.info8 rfl (by decide) (by omega) (.slice none 0 0) ([] : List Int) l _ _ _ ok (fun _ => False) rfl rfl (Kd.R_nil _ _ _ _ _) (Kd.C_below HR.out HB1.out) (fun _ _ h => h) (fun _ h => h.elim) HF.out HB1.out HB1.out.size (by simp; omega) ?_; intro v1 w2 ho hb hg _; rw [List.nil_append] at ho; have HO2 := Lib.hid ho; have HB2 := Lib.hid hb; have HL2 := Lib.hid (Kd.R_grown1 HL.out rfl hg (by simp [Value.ownBlock])); have hsz := hg.size; clear ho hb hg)
      go_loopw [9, 10] (fun u i wq => ∃ k : Nat, k ≤ j ∧ i = .int .i64 ((j : Int) - 1 - k) ∧ Hid (Kd.R (Kd.int .u8) 5 wq w.heap.size ok u (l ++ (be v j).take k)) ∧ Hid (Kd.R (Kd.int .u8) 5 wq w.heap.size (fun _ => True) (.slice (some ad) j cl) (le v j)) ∧ Hid (Below w.heap.size w wq) ∧ Hid (wr.heap.size ≤ wq.heap.size)) (fun _ i _ => ((intOf i) + 1).toNat)
      case atStart => exact ⟨0, Nat.zero_le _, by simp, by rw [List.take_zero, List.append_nil]; exact HO2.out, HL2.out, HB2.out, hsz⟩
      case round =>
        obtain ⟨k, hk, rfl, HO3, HL3, HB3, HS3⟩ := hrel
        by_cases hlt : k < j
        · obtain ⟨m, hm⟩ : ∃ m, m + k + 1 = j := ⟨j - k - 1, by omega⟩
          have ei : (j : Int) - 1 - k = (m : Int) := by omega
          rw [ei]
          have hbs := be_snoc v j k hlt
          have hle := le_at v j m (by omega)
          rw [show j - 1 - k = m by omega] at hbs
          obtain ⟨ad', e', hx⟩ := Kd.at_int ((Kd.R_reads' HL3.out).2.2) (m : Int) (by omega) (by rw [le_length]; omega)
          cases e'
          rw [Int.toNat_natCast, hle] at hx
          generalize v / 2 ^ (8 * m) % 256 = y at hbs hle hx
          have HS := Lib.hid hbs
          have HT := Lib.hid (show (l ++ (be v j).take k).length ≤ l.length + 7 by rw [List.length_append, List.length_take, be_length]; omega)
          have hf3 := fun (q : Nat) hq => HF.out q (Nat.le_trans HS3.out hq)
          have HF3 := Lib.hid hf3
          clear hbs hle ei hf3
          go_wp2_with ((with_reducible refine gate_builtin (b := .append) (xs := #[.tmp 33, .tmp 38]) rfl ?_); at_builtin; refine Kd.R_append (Kd.int .u8) (w0 := w) w.heap.size rfl (.tmp 33) (.tmp 38) 22 5 (.int .u8 0) 1 rfl Try.underlying22 Low.info8 rfl (by decide) (by omega) _ (l ++ (be v j).take k) _ _ ok (fun _ => False) rfl rfl rfl (fun _ hk => hk.elim) HF3.out HO3.out HB3.out HB3.out.size (by have := HT.out; omega) ?_; intro v4 w4 ho hb hg _; have HO4 := Lib.hid ho; have HB4 := Lib.hid hb; have HL4 := Lib.hid (Kd.R_grown1 HL3.out rfl hg (fun e => by obtain ⟨h0, _⟩ := HO3.out; exact HOK.out _ (h0 ad.block e) rfl)); have HS4 := Lib.hid (Nat.le_trans HS3.out hg.size); clear ho hb hg)
          go_roundw
          case rel => exact ⟨k + 1, by omega, congrArg (Value.int .i64) (show ((m : Int) - 1) = (j : Int) - 1 - ((k + 1 : Nat) : Int) by omega), by rw [HS.out, ← List.append_assoc]; exact HO4.out, HL4.out, HB4.out, HS4.out⟩
          case measure => simp [intOf]
        · obtain rfl : k = j := by omega
          go_wp2
          go_ret
          refine ⟨_, rfl, ?_, HB3.out⟩
          have := HO3.out
          rw [List.take_of_length_le (by rw [be_length]; omega)] at this
          exact Kd.R_mono this (fun _ _ => trivial)

set_option maxHeartbeats 1000000 in
theorem refAddText_yes (A : Option Addr) (c : Nat) (l : List Int) (s : ByteArray) (w : World) (hr : Kd.C (Kd.int .u8) w A l.length l) (hl : l.length ≤ 140737488289790) (hs : s.size ≤ 65535) :
    Calls Try.prog 37 #[.slice A l.length c, .string s] w fun e w' => ∃ v0 : Value, e = .returned (.tuple #[v0, .int .i64 0]) ∧ Kd.R (Kd.int .u8) 5 w' w.heap.size (fun _ => True) v0 (addText l s) ∧ Below w.heap.size w w' := by
  have H := Lib.hid (refAdd_calls s.size 2 A c l w (by omega) (by omega) (by decide) (by decide) hr (by omega))
  clear hr
  go_enter Try.func37, Try.ntmps37
  go_wp2_with fail
  refine H.out.mono ?_
  rintro e w1 ⟨v0, rfl, ho, hb⟩
  have HO := Lib.hid ho
  have HB := Lib.hid hb
  clear ho hb
  go_wp2_with ((with_reducible refine gate_builtin (b := .append) (xs := #[.tmp 13, .tmp 14]) rfl ?_); at_builtin; refine print_append_str (w0 := w) w.heap.size rfl (.tmp 13) (.tmp 14) 22 9 5 rfl Try.underlying22 Try.underlying9 Low.info8 v0 (l ++ be s.size 2) s rfl rfl (Kd.own_of_R HO.out) HB.out HB.out.size (by rw [List.length_append, be_length]; omega) ?_; intro v1 w2 ho hb _; have HO2 := Lib.hid ho; have HB2 := Lib.hid hb; clear ho hb)
  go_ret2
  exact ⟨_, rfl, Kd.R_of_own HO2.out (fun _ _ => trivial), HB2.out⟩
set_option maxHeartbeats 400000 in
theorem refAddText_no (A : Option Addr) (c : Nat) (l : List Int) (s : ByteArray) (w : World) (hs : 65535 < s.size) :
    Calls Try.prog 37 #[.slice A l.length c, .string s] w fun e w' => e = .returned (.tuple #[.slice none 0 0, .int .i64 3]) ∧ w = w' := by
  go_enter Try.func37, Try.ntmps37
  go_wp2
  go_ret2
  exact ⟨rfl, rfl⟩

end Go.Proofs.Ytnhkbjihgepapaa.Oct
