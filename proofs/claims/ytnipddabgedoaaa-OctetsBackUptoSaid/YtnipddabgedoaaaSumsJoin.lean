/- The walk of the law SumsJoin: sums go on behind one another, and are linear. -/
import Derived.Test.YtnipddabgedoaaaSumsAwake
import Derived.Test.YtnipddabgedoaaaSumsPlain
import Derived.Test.YtnipddabgedoaaaLow
import Derived.Deep.QuietTactic
import Derived.BigQuiet
import Derived.Deep.RegionLaw
import Derived.Test.YtnipddabgedoaaaWLast
set_option linter.unusedVariables false
set_option linter.unusedSimpArgs false
namespace Go.Proofs.Ytnipddabgedoaaa.Sums
open Go.RowKit Go.Proofs.YtnipddabgedoaaaW.PrintWords Go.Proofs.YtnipddabgedoaaaW.PrintLast Go.Proofs.YtnipddabgedoaaaW.PrintMore

theorem min4_mn (ats : Array TypeId) (ty : TypeId) (k : IntKind) (x y z u : Int) : Builtin.min_ ats ty #[.int k x, .int k y, .int k z, .int k u] = pure (.int k (mn (mn (mn x y) z) u)) := by
  rw [min_four]
  simp only [min2_int, pure_bind]
  rfl
attribute [local go_sem high] min4_mn

theorem xor3_length (l m n : List Int) (h1 : m.length = l.length) (h2 : n.length = l.length) : (xor3 l m n).length = l.length := by
  induction l generalizing m n with
  | nil => rfl
  | cons a l ih => cases m with
    | nil => simp at h1
    | cons b m => cases n with
      | nil => simp at h2
      | cons c n => show (xor3 l m n).length + 1 = l.length + 1; rw [ih m n (by simpa using h1) (by simpa using h2)]
theorem xor3_at (l m n : List Int) (j : Nat) (h1 : m.length = l.length) (h2 : n.length = l.length) (hj : j < l.length) :
    (xor3 l m n).take (j + 1) = (xor3 l m n).take j ++ [Go.bits .xor .u8 (Go.bits .xor .u8 (rd l j) (rd m j)) (rd n j)] := by
  induction l generalizing m n j with
  | nil => simp at hj
  | cons a l ih => cases m with
    | nil => simp at h1
    | cons b m => cases n with
      | nil => simp at h2
      | cons c n =>
        cases j with
        | zero => simp [xor3, rd]
        | succ j =>
          have h := ih m n j (by simpa using h1) (by simpa using h2) (by simpa using hj)
          have e : ∀ (a : Int) (q : List Int), rd (a :: q) ((j + 1 : Nat) : Int) = rd q (j : Int) := fun a q => by simp [rd]
          rw [e, e, e]
          show Go.bits .xor .u8 (Go.bits .xor .u8 a b) c :: (xor3 l m n).take (j + 1) = _ :: (xor3 l m n).take j ++ _
          rw [h]; rfl
theorem xor3_bytes (l m n : List Int) (hl : ∀ x ∈ l, 0 ≤ x ∧ x ≤ 255) (hm : ∀ x ∈ m, 0 ≤ x ∧ x ≤ 255) (hn : ∀ x ∈ n, 0 ≤ x ∧ x ≤ 255) : ∀ x ∈ xor3 l m n, 0 ≤ x ∧ x ≤ 255 := by
  induction l generalizing m n with
  | nil => intro x hx; cases hx
  | cons a l ih => cases m with
    | nil => intro x hx; cases hx
    | cons b m => cases n with
      | nil => intro x hx; cases hx
      | cons c n =>
        intro x hx
        rcases List.mem_cons.1 hx with h | h
        · rw [h]
          exact (xor_byte _ c (xor_byte a b (hl a (List.mem_cons_self ..)) (hm b (List.mem_cons_self ..))).2 (hn c (List.mem_cons_self ..))).2
        · exact ih m n (fun x hx => hl x (List.mem_cons_of_mem _ hx)) (fun x hx => hm x (List.mem_cons_of_mem _ hx)) (fun x hx => hn x (List.mem_cons_of_mem _ hx)) x h
theorem copy_n (A : Option Addr) (c n : Nat) (l : List Int) (w : World) (hn : l.length = n) (hr : Kd.C (Kd.int .u8) w A n l) (hl : n ≤ 140737488355328) :
    Calls Try.prog 37 #[.slice A n c] w fun e w' => ∃ v0 : Value, e = .returned v0 ∧ Kd.R (Kd.int .u8) 5 w' w.heap.size (fun _ => True) v0 l ∧ Below w.heap.size w w' := by
  subst hn; exact Low.copy_calls A c l w hr hl
theorem crc_n (A : Option Addr) (c n : Nat) (l : List Int) (w : World) (hn : l.length = n) (hr : Kd.C (Kd.int .u8) w A n l) (hb : ∀ x ∈ l, 0 ≤ x ∧ x ≤ 255) (hl : n ≤ 140737488351232) :
    Calls Try.prog 29 #[.slice A n c] w fun e w' => e = .returned (w32 (more 0#32 l)) ∧ Below w.heap.size w w' := by
  subst hn; exact crc_calls A c l w hr hb hl
theorem more_n (s : BitVec 32) (A : Option Addr) (c n : Nat) (l : List Int) (w : World) (hn : l.length = n) (hr : Kd.C (Kd.int .u8) w A n l) (hb : ∀ x ∈ l, 0 ≤ x ∧ x ≤ 255) (hl : n ≤ 140737488351232) :
    Calls Try.prog 30 #[w32 s, .slice A n c] w fun e w' => e = .returned (w32 (more s l)) ∧ Below w.heap.size w w' := by
  subst hn; exact more_calls s A c l w hr hb hl
theorem more_nil (A : Option Addr) (c n : Nat) (l : List Int) (w : World) (hn : l.length = n) (hr : Kd.C (Kd.int .u8) w A n l) (hb : ∀ x ∈ l, 0 ≤ x ∧ x ≤ 255) (hl : n ≤ 140737488351232) :
    Calls Try.prog 30 #[.int .u32 0, .slice A n c] w fun e w' => e = .returned (w32 (more 0#32 l)) ∧ Below w.heap.size w w' := more_n 0#32 A c n l w hn hr hb hl

set_option maxHeartbeats 2000000 in
set_option maxRecDepth 100000 in
theorem join_law (A0 : Option Addr) (c0 : Nat) (a : List Int) (A1 : Option Addr) (c1 : Nat) (b : List Int) (A2 : Option Addr) (c2 : Nat) (c : List Int) (w : World) (hra : Kd.C (Kd.int .u8) w A0 a.length a) (hca : a.length ≤ c0) (hrb : Kd.C (Kd.int .u8) w A1 b.length b) (hcb : b.length ≤ c1) (hrc : Kd.C (Kd.int .u8) w A2 c.length c) (hcc : c.length ≤ c2)
    (hba : ∀ x ∈ a, 0 ≤ x ∧ x ≤ 255) (hbb : ∀ x ∈ b, 0 ≤ x ∧ x ≤ 255) (hbc : ∀ x ∈ c, 0 ≤ x ∧ x ≤ 255) :
    Calls Try.prog 10 #[.slice A0 a.length c0, .slice A1 b.length c1, .slice A2 c.length c2] w fun e w' => e = .returned (.bool true) ∧ Below w.heap.size w w' := by
  obtain ⟨n, hn⟩ : ∃ n : Nat, mn (mn (mn (a.length : Int) b.length) c.length) 20000 = n ∧ n ≤ a.length ∧ n ≤ b.length ∧ n ≤ c.length ∧ n ≤ 20000 := by
    refine ⟨min (min (min a.length b.length) c.length) 20000, ?_, by omega, by omega, by omega, by omega⟩
    unfold mn; repeat' split
    all_goals omega
  obtain ⟨hmn, ha1, hb1, hc1, hn1⟩ := hn
  have HA := Lib.hid (Low.take_C hra n ha1)
  have HB := Lib.hid (Low.take_C hrb n hb1)
  have HC := Lib.hid (Low.take_C hrc n hc1)
  have BA := Lib.hid (show ∀ x ∈ a.take n, 0 ≤ x ∧ x ≤ 255 from fun x hx => hba x (List.mem_of_mem_take hx))
  have BB := Lib.hid (show ∀ x ∈ b.take n, 0 ≤ x ∧ x ≤ 255 from fun x hx => hbb x (List.mem_of_mem_take hx))
  have BC := Lib.hid (show ∀ x ∈ c.take n, 0 ≤ x ∧ x ≤ 255 from fun x hx => hbc x (List.mem_of_mem_take hx))
  have LA := Lib.hid (Low.take_le a n ha1)
  have LB := Lib.hid (Low.take_le b n hb1)
  have LC := Lib.hid (Low.take_le c n hc1)
  clear hra hrb hrc hba hbb hbc
  have ka : (n : Int) ≤ c0 := by omega
  have kb : (n : Int) ≤ c1 := by omega
  have kc : (n : Int) ≤ c2 := by omega
  obtain ⟨x, hx⟩ : ∃ x, x = a.take n := ⟨_, rfl⟩
  obtain ⟨y, hy⟩ : ∃ x, x = b.take n := ⟨_, rfl⟩
  obtain ⟨z, hz⟩ : ∃ x, x = c.take n := ⟨_, rfl⟩
  rw [← hx] at HA BA LA
  rw [← hy] at HB BB LB
  rw [← hz] at HC BC LC
  clear hx hy hz
  have hjoin := more_join 0#32 x y
  have hxor : more 0#32 (xor3 x y z) = more 0#32 x ^^^ more 0#32 y ^^^ more 0#32 z := more_xor3 x y z BA.out BB.out BC.out (by rw [LA.out, LB.out]) (by rw [LA.out, LC.out])
  have J := Lib.hid hjoin
  have X := Lib.hid hxor
  clear hjoin hxor
  go_enter Try.func10, Try.ntmps10
  go_wp2_with fail
  go_quiet (fail)
  go_wp2_with fail
  refine (copy_n A0 c0 n x _ LA.out (Kd.C_drewN HA.out _) (by omega)).mono ?_
  rintro e w1 ⟨v0, rfl, ho, hb⟩
  have HO := Lib.hid ho
  have HW := Lib.hid (Below.trans (pw_below_drewN (Below.refl _ w) _) hb)
  clear ho hb
  go_wp2_with ((with_reducible refine gate_builtin (b := .append) (xs := #[.tmp 28, .tmp 29]) rfl ?_); at_builtin; refine Kd.R_append_rows (Kd.int .u8) (w0 := w) w.heap.size rfl (.tmp 28) (.tmp 29) 23 5 (.int .u8 0) 1 rfl Try.underlying23 Low.info8 rfl (by decide) (by omega) v0 x y _ _ _ (fun _ => True) (fun _ => False) rfl rfl HO.out (Kd.C_below HB.out HW.out) (fun _ _ h => h) (fun _ h => h.elim) (fun _ _ => trivial) HW.out HW.out.size (by rw [LA.out]; omega) ?_; intro v w3 ho hb _ _; obtain ⟨Ab, cb, hv, hcb, hCb⟩ := Kd.R_reads ho; subst hv; have HCb := Lib.hid hCb; clear HW; have HW := Lib.hid hb; clear ho hb hCb)
  refine (crc_n A0 c0 n x _ LA.out (Kd.C_below HA.out HW.out) BA.out (by omega)).mono ?_
  rintro e w4 ⟨rfl, hb⟩
  replace HCb := Lib.hid (Kd.C_below HCb.out hb)
  replace HW := Lib.hid (below_then HW.out HW.out.size hb)
  clear hb
  go_wp2_with fail
  refine (more_n _ A1 c1 n y _ LB.out (Kd.C_below HB.out HW.out) BB.out (by omega)).mono ?_
  rintro e w5 ⟨rfl, hb⟩
  replace HCb := Lib.hid (Kd.C_below HCb.out hb)
  replace HW := Lib.hid (below_then HW.out HW.out.size hb)
  clear hb
  go_wp2_with fail
  refine (crc_n Ab cb _ (x ++ y) _ List.length_append (by rw [← List.length_append]; exact HCb.out) (fun q hq => (List.mem_append.1 hq).elim (BA.out q) (BB.out q)) (by rw [LA.out, LB.out]; omega)).mono ?_
  rintro e w6 ⟨rfl, hb⟩
  replace HW := Lib.hid (below_then HW.out HW.out.size hb)
  clear hb HCb
  rw [J.out]
  go_wp2_with fail
  refine (more_nil A0 c0 n x _ LA.out (Kd.C_below HA.out HW.out) BA.out (by omega)).mono ?_
  rintro e w7 ⟨rfl, hb⟩
  replace HW := Lib.hid (below_then HW.out HW.out.size hb)
  clear hb
  go_wp2_with fail
  refine (crc_n A0 c0 n x _ LA.out (Kd.C_below HA.out HW.out) BA.out (by omega)).mono ?_
  rintro e w8 ⟨rfl, hb⟩
  replace HW := Lib.hid (below_then HW.out HW.out.size hb)
  clear hb
  go_wp2_with fail
  go_loopw [9, 10] (fun u i wr => ∃ j : Nat, j ≤ n ∧ i = .int .i64 j ∧ Hid (Kd.R (Kd.int .u8) 5 wr w.heap.size (fun _ => True) u ((xor3 x y z).take j)) ∧ Hid (Below w.heap.size w wr)) (fun _ i _ => n - (intOf i).toNat)
  case atStart => exact ⟨0, Nat.zero_le _, rfl, by rw [List.take_zero]; exact Kd.R_nil _ _ _ _ _, HW.out⟩
  case round =>
    obtain ⟨j, hj, rfl, HR1, HB1⟩ := hrel
    by_cases hlt : j < n
    · obtain ⟨adx, ex, hx⟩ := Kd.at_int (Kd.C_below HA.out HB1.out) j (by omega) (by omega)
      obtain ⟨ady, ey, hy⟩ := Kd.at_int (Kd.C_below HB.out HB1.out) j (by omega) (by omega)
      obtain ⟨adz, ez, hz⟩ := Kd.at_int (Kd.C_below HC.out HB1.out) j (by omega) (by omega)
      subst ex ey ez
      rw [Int.toNat_natCast] at hx hy hz
      have hbx : ((j : Nat) : Int) < (n : Int) := by omega
      go_wp2_with fail
      have HS := Lib.hid (xor3_at x y z j (by rw [LA.out, LB.out]) (by rw [LA.out, LC.out]) (by rw [LA.out]; exact hlt))
      have HT := Lib.hid (show ((xor3 x y z).take j).length ≤ 20000 by rw [List.length_take]; omega)
      have HR2 : Hid (Kd.R (Kd.int .u8) 5 wr.drew w.heap.size (fun _ => True) u9 ((xor3 x y z).take j)) := Kd.R_drew HR1.out
      have HB2 : Hid (Below w.heap.size w wr.drew) := HB1.out.drew
      go_region_law (refine Kd.R_append_step (Kd.int .u8) (w0 := w) w.heap.size (by simp [Region.wanted]) (.tmp 50) (.tmp 65) 23 5 (.int .u8 0) 1 rfl Try.underlying23 Low.info8 rfl (by decide) (by omega) u9 ((xor3 x y z).take j) (Go.bits .xor .u8 (Go.bits .xor .u8 (rd x j) (rd y j)) (rd z j)) [.int .u8 (Go.bits .xor .u8 (Go.bits .xor .u8 (rd x j) (rd y j)) (rd z j))] (fun _ => True) (fun _ => False) rfl rfl rfl (fun _ hk => hk.elim) (fun _ _ => trivial) HR2.out HB2.out HB2.out.size (by have := HT.out; omega) ?_; intro v1 w4 ho hb _ _; have HO4 := Lib.hid ho; have HB4 := Lib.hid hb; clear ho hb)
      all_goals
        go_wp2
        go_roundw
        case rel => exact ⟨j + 1, by omega, by go_num, by rw [HS.out]; exact HO4.out, HB4.out⟩
        case measure => simp [intOf]; omega
    · obtain rfl : j = n := by omega
      have HX := Lib.hid (show (xor3 x y z).take x.length = xor3 x y z from List.take_of_length_le (by rw [xor3_length x y z (by rw [LA.out, LB.out]) (by rw [LA.out, LC.out])]; omega))
      have hr9 := HR1.out
      have hlx := xor3_length x y z (by rw [LA.out, LB.out]) (by rw [LA.out, LC.out])
      rw [List.take_of_length_le (by rw [hlx, LA.out]; omega)] at hr9
      obtain ⟨Au, cu, hv, hcu, hCu⟩ := Kd.R_reads hr9
      rw [hlx, LA.out] at hv hCu
      subst hv
      have HCu := Lib.hid hCu
      have HLX := Lib.hid (hlx.trans LA.out)
      have HBX := Lib.hid (xor3_bytes x y z BA.out BB.out BC.out)
      have HXB := Lib.hid (show Go.bits .xor .u32 (Go.bits .xor .u32 ((more 0#32 x).toNat : Int) ((more 0#32 y).toNat : Int)) ((more 0#32 z).toNat : Int) = ((more 0#32 (xor3 x y z)).toNat : Int) by rw [xor_bv, xor_bv, X.out])
      clear hr9 hCu hlx HX
      go_wp2_with fail
      refine (crc_n Au cu j (xor3 x y z) _ HLX.out HCu.out HBX.out (by omega)).mono ?_
      rintro e w9 ⟨rfl, hb⟩
      replace HW := Lib.hid (below_then HB1.out HB1.out.size hb)
      clear hb
      go_wp2_with fail
      refine (crc_n A0 c0 j x _ LA.out (Kd.C_below HA.out HW.out) BA.out (by omega)).mono ?_
      rintro e w10 ⟨rfl, hb⟩
      replace HW := Lib.hid (below_then HW.out HW.out.size hb)
      clear hb
      go_wp2_with fail
      refine (crc_n A1 c1 j y _ LB.out (Kd.C_below HB.out HW.out) BB.out (by omega)).mono ?_
      rintro e w11 ⟨rfl, hb⟩
      replace HW := Lib.hid (below_then HW.out HW.out.size hb)
      clear hb
      go_wp2_with fail
      refine (crc_n A2 c2 j z _ LC.out (Kd.C_below HC.out HW.out) BC.out (by omega)).mono ?_
      rintro e w12 ⟨rfl, hb⟩
      replace HW := Lib.hid (below_then HW.out HW.out.size hb)
      clear hb
      have hxb := HXB.out
      go_wp2_with fail
      refine (awake_calls _).mono ?_
      rintro e w13 ⟨rfl, hb⟩
      have HZ := Lib.hid (below_then HW.out HW.out.size hb)
      clear hb
      go_wp2
      go_ret
      exact ⟨rfl, HZ.out⟩
end Go.Proofs.Ytnipddabgedoaaa.Sums
