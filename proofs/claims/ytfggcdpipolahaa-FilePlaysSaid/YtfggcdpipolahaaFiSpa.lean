/- FileSpares: answers share no memory. -/
import Derived.Test.YtfggcdpipolahaaFiAwake
import Derived.Test.YtfggcdpipolahaaFiMade
import Derived.Test.YtfggcdpipolahaaFiApart
import Derived.Test.YtfggcdpipolahaaWGuard
set_option linter.unusedVariables false
set_option linter.unusedSimpArgs false
namespace Go.Proofs.Ytfggcdpipolahaa.PF
open Go.RowKit Go.Proofs.YtfggcdpipolahaaW.PrintWords Go.Proofs.YtfggcdpipolahaaW.PrintLast Go.Proofs.YtfggcdpipolahaaW.PrintMore
attribute [local go_sem] max2_int min2_int max_two min_two
theorem R_block {w : World} {g0 n c : Nat} {ok : Nat → Prop} {A : Option Addr} {x : List Int} (h : Kd.R ku8 5 w g0 ok (.slice A n c) x) (hn : 0 < n) : ∃ g cs, A = some ⟨g, 0, none⟩ ∧ w.heap[g]? = some (.cells cs 5 (0, 0)) ∧ cs.size = c ∧ n ≤ c ∧ c ≤ 9223372036854775807 ∧ g0 ≤ g ∧ g < w.heap.size := by
  obtain ⟨inner, ho⟩ := Kd.R_own h
  rcases ho.2 with ⟨he, _⟩ | ⟨g, cap, cur, he, hbg, hh, hnc, hcm, hcs, _⟩
  · injection he with _ he _
    omega
  · injection he with h1 h2 h3
    subst h1 h3
    have e : ku8.sz = 1 := rfl
    rw [e, Nat.mul_one] at hcs
    exact ⟨g, cur, rfl, hh, hcs, by rw [h2]; exact hnc, hcm, hbg, blk_lt hh⟩
/-- Rows of bytes that are no disk's are written. -/
theorem Disks.fr {w0 w w1 : World} {ok X : Nat → Prop} {F : Nat → Option ADk} {n : Nat} (h : Disks w0 w ok F n) (hf : Fr w w1 X) (hb : Below w0.heap.size w0 w1) (hX : ∀ k, X k → ∃ cs, w.heap[k]? = some (.cells cs 5 (0, 0))) (hok : ∀ k, ok k → ¬ X k) : Disks w0 w1 ok F n := by
  obtain ⟨hb0, D, RS, ho, hd⟩ := h
  refine ⟨hb, D, RS, fun b a e => ⟨(ho b a e).mem.step (fun k hk hl => hf.block k hl (fun hx => ?_)), (ho b a e).good, (ho b a e).box, (ho b a e).ops⟩, hd⟩
  obtain ⟨cs, hc⟩ := hX k hx
  rcases hk with rfl | hk | hk
  · have e2 := (ho k a e).mem.box
    unfold DB at e2
    rw [hc] at e2
    injection e2 with e2
    injection e2 with _ e3 _
    exact absurd e3 (by decide)
  · exact Kd.R_ne (ho b a e).mem.ops hc (by decide) hk
  · exact hok k hk hx
def sp1 (X : List Int) : ADk := (ADk.new.does ⟨1, false, 0, X⟩).1
def sp2 (X : List Int) : ADk := (sp1 X).sync.1
def sp3 (X : List Int) : ADk := ((sp2 X).does ⟨1, false, 0, [1]⟩).1
theorem sp0_1 {X : List Int} (hX : X.length = 40) : ADk.new.append 1 X = (sp1 X, 0) := by
  unfold ADk.append
  rw [if_pos (by decide), if_neg (by show ¬ 1048576 < 0 + X.length; omega)]
  rfl
theorem sp1_r (X : List Int) : (sp1 X).read 1 = (X, 0) := by
  show ([] ++ X.take X.length, (0 : Int)) = _
  rw [List.nil_append, List.take_of_length_le (Nat.le_refl _)]
theorem sp1_2 (X : List Int) : (sp1 X).sync = (sp2 X, 0) := rfl
theorem sp2_r (X : List Int) : (sp2 X).read 1 = (X, 0) := by
  show ([] ++ X.take X.length, (0 : Int)) = _
  rw [List.nil_append, List.take_of_length_le (Nat.le_refl _)]
theorem sp2_d (X : List Int) : (sp2 X).durable 1 = (X, 0) := by
  show ([] ++ X.take X.length, (0 : Int)) = _
  rw [List.nil_append, List.take_of_length_le (Nat.le_refl _)]
theorem sp2_3 {X : List Int} (hX : X.length = 40) : (sp2 X).append 1 [1] = (sp3 X, 0) := by
  unfold ADk.append
  rw [if_pos (by decide), if_neg (by show ¬ 1048576 < ([] ++ X.take X.length).length + 1; rw [List.nil_append, List.length_take]; omega)]
  rfl
theorem sp3_r (X : List Int) : (sp3 X).read 1 = (X ++ [1], 0) := by
  show (([] ++ X.take X.length) ++ [1], (0 : Int)) = _
  rw [List.nil_append, List.take_of_length_le (Nat.le_refl _)]
theorem same40 {A A1 : Option Addr} {c c1 g g1 n : Nat} {ok ok1 : Nat → Prop} {X : List Int} {w : World} (hn : X.length = n) (h : Kd.R ku8 5 w g ok (.slice A n c) X) (h1 : Kd.R ku8 5 w g1 ok1 (.slice A1 n c1) X) (hb : ∀ x ∈ X, 0 ≤ x ∧ x ≤ 255) : Calls Try.prog 15 #[.slice A n c, .slice A1 n c1] w fun e w' => e = .returned (.bool true) ∧ Drawn0 w w' := by
  subst hn
  have := Low.same_calls A c X A1 c1 X w (Kd.R_reads' h).2.2 (Kd.R_reads' h1).2.2 hb hb
  rw [decide_eq_true (rfl : X = X)] at this
  exact this
theorem append_k {w0 w : World} {ok : Nat → Prop} {F : Nat → Option ADk} {b : Nat} {a a' : ADk} {n : Nat} {z : Int} (h : Disks w0 w ok F n) (hF : F b = some a) (f : Int) {Z : List Int} {k : Nat} (hk : Z.length = k) (hr : a.append f Z = (a', z)) (hn : n ≤ 1099511627776) {A : Option Addr} {c : Nat} (hx : Kd.C ku8 w A Z.length Z) (hc : Z.length ≤ c) (hkl : k ≤ 4398046511104) :
    Calls Try.prog 11 #[.pointer (some ⟨b, 0, none⟩), .int .i64 f, .slice A k c] w (ToldM w0 w ok F b a' (n + 1) z) := by
  subst hk
  exact h.append hF f A Z c hr hn hx hc hkl
theorem R_C {w : World} {g n c : Nat} {ok : Nat → Prop} {A : Option Addr} {x : List Int} (h : Kd.R ku8 5 w g ok (.slice A n c) x) : Kd.C ku8 w A x.length x ∧ x.length ≤ c := by
  have := Kd.R_reads' h
  exact ⟨this.2.2, by rw [← this.1]; exact this.2.1⟩
theorem PostR.len {w : World} {x : List Int} {z : Int} {e : Ending} {w' : World} {k : Nat} (h : PostR w x z e w') (hk : x.length = k) : ∃ A c, e = .returned (.tuple #[.slice A k c, .int .i64 z]) ∧ Kd.R ku8 5 w' w.heap.size (fun _ => True) (.slice A k c) x ∧ Below w.heap.size w w' := by
  subst hk
  exact h
def g4 (a b c d : Nat) (k : Nat) : Nat := if k = 0 then a else if k = 1 then b else if k = 2 then c else d
set_option maxRecDepth 100000 in
set_option maxHeartbeats 8000000 in
theorem spares_law (seed : Int) (w : World) : Calls Try.prog 3 #[.int .i64 seed] w fun e w' => e = .returned (.bool true) ∧ Below w.heap.size w w' := by
  obtain ⟨X, hX⟩ : ∃ X, X = madeL seed 40 := ⟨_, rfl⟩
  have hXl : X.length = 40 := by rw [hX, madeL_length]
  have HXb := Lib.hid (show ∀ x ∈ X, 0 ≤ x ∧ x ≤ 255 by rw [hX]; exact madeL_bytes seed 40)
  have HMd := Lib.hid (show ∀ W : World, Calls Try.prog 10 #[.int .i64 seed, .int .i64 40] W fun e w' => ∃ A c, e = .returned (.slice A 40 c) ∧ Kd.R ku8 5 w' W.heap.size (fun _ => True) (.slice A 40 c) X ∧ Below W.heap.size W w' from fun W => by
    have := made_calls seed 40 W (by decide)
    rw [← hX, hXl] at this
    exact this)
  have HXl := Lib.hid hXl
  have HD := Lib.hid (Disks.none_ w 0)
  clear hX hXl
  go_enter Try.func3, Try.ntmps3
  go_wp2_with fail
  refine (HD.out.new).mono ?_
  rintro e w1 ⟨b, rfl, F1, hD, hb, hr, hk⟩
  have HW1 := Lib.hid hk.size
  have HF := Lib.hid hb
  replace HD := Lib.hid hD
  clear hD hb hr hk
  go_wp2_with fail
  refine (HMd.out _).mono ?_
  rintro e w2 ⟨AI, cI, rfl, hRI, hb⟩
  have HRI := Lib.hid hRI
  replace HD := Lib.hid (HD.out.below hb)
  clear hRI hb
  obtain ⟨n2, hn2⟩ : ∃ n, n = w2.heap.size := ⟨_, rfl⟩
  have HIlt := Lib.hid (fun k (hk : Value.ownBlock (.slice AI 40 cI) = some k) => (show k < n2 by rw [hn2]; exact Kd.R_lt HRI.out k hk))
  go_wp2_with fail
  refine (append_k HD.out HF.out 1 HXl.out (sp0_1 HXl.out) (by decide) (R_C HRI.out).1 (R_C HRI.out).2 (by decide)).mono ?_
  rintro e w3 ⟨rfl, F3, hD, hb, _, hk, hsz, hkt⟩
  have HZ23 := Lib.hid (show n2 ≤ w3.heap.size by rw [hn2]; exact hsz)
  clear hsz
  have HD3 := Lib.hid ((hD.bound).mono (ok' := fun k => n2 ≤ k ∧ k < w3.heap.size) (fun k hk => ⟨by rw [hn2]; exact hk.1.elim (fun h => h.elim) id, hk.2⟩))
  have HF3 := Lib.hid hb
  have HRI3 := Lib.hid (hk _ _ _ _ HRI.out)
  clear hD hb hk hkt HD HF HRI
  go_wp2_with fail
  refine (HD3.out.read HF3.out 1 (sp1_r X) (by decide)).mono ?_
  rintro e w4 hp
  obtain ⟨Aa, ca, rfl, hr, hb⟩ := hp.len HXl.out
  clear hp
  have HRa := Lib.hid hr
  have HRI4 := Lib.hid (Kd.R_below HRI3.out hb)
  have HD4 := Lib.hid (HD3.out.below hb)
  have HZ34 := Lib.hid hb.size
  clear hr hb HD3 HRI3
  go_wp2_with fail
  refine (HD4.out.sync HF3.out (sp1_2 X)).mono ?_
  rintro e w5 ⟨rfl, F5, hD, hb, _, hk, _, hkt⟩
  have HD5 := Lib.hid ((hD.bound).mono (ok' := fun k => (n2 ≤ k ∧ k < w3.heap.size) ∨ (w4.heap.size ≤ k ∧ k < w5.heap.size)) (fun k hk => hk.1.elim .inl (fun h => .inr ⟨h, hk.2⟩)))
  have HF5 := Lib.hid hb
  have HRa5 := Lib.hid (hk _ _ _ _ HRa.out)
  have HRI5 := Lib.hid (hk _ _ _ _ HRI4.out)
  have HZ45 := Lib.hid (show w4.heap.size ≤ w5.heap.size by assumption)
  clear hD hb hk hkt HD4 HF3 HRI4
  go_wp2_with fail
  refine (HD5.out.read HF5.out 1 (sp2_r X) (by decide)).mono ?_
  rintro e w6 hp
  obtain ⟨Ab, cb, rfl, hr, hb⟩ := hp.len HXl.out
  clear hp
  have HRb := Lib.hid hr
  have HRa6 := Lib.hid (Kd.R_below HRa5.out hb)
  have HRI6 := Lib.hid (Kd.R_below HRI5.out hb)
  have HD6 := Lib.hid (HD5.out.below hb)
  clear hr hb HD5 HRI5 HRa5
  go_wp2_with fail
  refine (HD6.out.durable HF5.out 1 (sp2_d X)).mono ?_
  rintro e w7 hp
  obtain ⟨Ac, cc, rfl, hr, hb⟩ := hp.len HXl.out
  clear hp
  have HRc := Lib.hid hr
  have HRa7 := Lib.hid (Kd.R_below HRa6.out hb)
  have HRb7 := Lib.hid (Kd.R_below HRb.out hb)
  have HRI7 := Lib.hid (Kd.R_below HRI6.out hb)
  have HD7 := Lib.hid (HD6.out.below hb)
  clear hr hb HD6 HRI6 HRa6
  go_wp2_with fail
  refine (same40 HXl.out HRa7.out HRb7.out HXb.out).mono ?_
  rintro e w8 ⟨rfl, hd⟩
  have HB8 := Lib.hid hd.below
  clear hd
  go_wp2_with fail
  refine (same40 HXl.out (Kd.R_below HRb7.out HB8.out) (Kd.R_below HRc.out HB8.out) HXb.out).mono ?_
  rintro e w9 ⟨rfl, hd⟩
  have HB9 := Lib.hid (below_then HB8.out HB8.out.size hd.below)
  clear hd HB8
  obtain ⟨ga, sa, hAa, hga, hsa, hla, hma, hba, hta⟩ := R_block (Kd.R_below HRa7.out HB9.out) (by decide)
  obtain ⟨gb, sb, hAb, hgb, hsb, hlb, hmb, hbb, htb⟩ := R_block (Kd.R_below HRb7.out HB9.out) (by decide)
  obtain ⟨gc, sc, hAc, hgc, hsc, hlc, hmc, hbc, htc⟩ := R_block (Kd.R_below HRc.out HB9.out) (by decide)
  obtain ⟨gi, si, hAi, hgi, hsi, hli, hmi, hbi, hti⟩ := R_block (Kd.R_below HRI7.out HB9.out) (by decide)
  subst hAa hAb hAc hAi
  have hga4 := Kd.R_lt HRa.out ga (by simp [Value.ownBlock])
  have hgb6 := Kd.R_lt HRb.out gb (by simp [Value.ownBlock])
  have hgi2 := HIlt.out gi (by simp [Value.ownBlock])
  have HD9 := Lib.hid (HD7.out.below HB9.out)
  have hz := HZ45.out
  have hz23 := HZ23.out
  have HAll := Lib.hid (show w3.heap.size ≤ ga ∧ ga < w4.heap.size ∧ w5.heap.size ≤ gb ∧ gb < w6.heap.size ∧ w6.heap.size ≤ gc ∧ w1.heap.size ≤ gi ∧ gi < n2 ∧ n2 ≤ w3.heap.size ∧ w4.heap.size ≤ w5.heap.size from ⟨hba, hga4, hbb, hgb6, hbc, hbi, hgi2, hz23, hz⟩)
  have HBk := Lib.hid (And.intro hga (And.intro hgb (And.intro hgc hgi)))
  have HSz := Lib.hid (show sa.size = ca ∧ sb.size = cb ∧ sc.size = cc ∧ si.size = cI from ⟨hsa, hsb, hsc, hsi⟩)
  have HLe := Lib.hid (show (40 ≤ ca ∧ ca ≤ 9223372036854775807) ∧ (40 ≤ cb ∧ cb ≤ 9223372036854775807) ∧ (40 ≤ cc ∧ cc ≤ 9223372036854775807) ∧ (40 ≤ cI ∧ cI ≤ 9223372036854775807) from ⟨⟨hla, hma⟩, ⟨hlb, hmb⟩, ⟨hlc, hmc⟩, ⟨hli, hmi⟩⟩)
  clear hga hgb hgc hgi hsa hsb hsc hsi hla hma hlb hmb hlc hmc hli hmi hba hbb hbc hbi hta htb htc hti hga4 hgb6 hgi2 hz hz23 HD7 HRa7 HRb7 HRc HRa HRb HRI7 HB9
  have HAR : Hid (AR (w9.alloc (.cells #[.slice (some ⟨ga, 0, none⟩) 40 ca, .slice (some ⟨gb, 0, none⟩) 40 cb, .slice (some ⟨gc, 0, none⟩) 40 cc, .slice (some ⟨gi, 0, none⟩) 40 cI] 24)) 4 w9.heap.size (g4 ga gb gc gi) (fun _ => 40) (g4 ca cb cc cI)) := Lib.hid (by
    have hn := blk_new w9 (.cells #[.slice (some ⟨ga, 0, none⟩) 40 ca, .slice (some ⟨gb, 0, none⟩) 40 cb, .slice (some ⟨gc, 0, none⟩) 40 cc, .slice (some ⟨gi, 0, none⟩) 40 cI] 24)
    have hA := HAll.out
    refine ⟨fun k hk => ?_, ⟨_, hn⟩, fun k hk => ?_, fun k hk => ?_, fun j k hj hk e => ?_⟩
    · rw [blk_cell hn k]
      have h4 : k = 0 ∨ k = 1 ∨ k = 2 ∨ k = 3 := by omega
      rcases h4 with rfl | rfl | rfl | rfl <;> rfl
    · have h4 : k = 0 ∨ k = 1 ∨ k = 2 ∨ k = 3 := by omega
      rcases h4 with rfl | rfl | rfl | rfl
      · exact ⟨sa, blk_alloc HBk.out.1 _, HSz.out.1⟩
      · exact ⟨sb, blk_alloc HBk.out.2.1 _, HSz.out.2.1⟩
      · exact ⟨sc, blk_alloc HBk.out.2.2.1 _, HSz.out.2.2.1⟩
      · exact ⟨si, blk_alloc HBk.out.2.2.2 _, HSz.out.2.2.2⟩
    · have h4 : k = 0 ∨ k = 1 ∨ k = 2 ∨ k = 3 := by omega
      rcases h4 with rfl | rfl | rfl | rfl
      · exact ⟨HLe.out.1.1, by decide, by decide, HLe.out.1.2⟩
      · exact ⟨HLe.out.2.1.1, by decide, by decide, HLe.out.2.1.2⟩
      · exact ⟨HLe.out.2.2.1.1, by decide, by decide, HLe.out.2.2.1.2⟩
      · exact ⟨HLe.out.2.2.2.1, by decide, by decide, HLe.out.2.2.2.2⟩
    · have h4 : j = 0 ∨ j = 1 ∨ j = 2 ∨ j = 3 := by omega
      have h5 : k = 0 ∨ k = 1 ∨ k = 2 ∨ k = 3 := by omega
      rcases h4 with rfl | rfl | rfl | rfl <;> rcases h5 with rfl | rfl | rfl | rfl <;> simp [g4] at e <;> omega)
  have HDa := Lib.hid (HD9.out.below (below_alloc (Below.refl w9.heap.size w9) (.cells #[.slice (some ⟨ga, 0, none⟩) 40 ca, .slice (some ⟨gb, 0, none⟩) 40 cb, .slice (some ⟨gc, 0, none⟩) 40 cc, .slice (some ⟨gi, 0, none⟩) 40 cI] 24)))
  clear HSz HLe
  go_wp2_with fail
  refine (apart_calls HAR.out (by decide)).mono ?_
  rintro e w10 ⟨rfl, hf⟩
  have HBl := Lib.hid (HDa.out.bel.trans (hf.below HDa.out.bel.size (fun k hk => by
    obtain ⟨q, hq, rfl⟩ := hk
    have hA := HAll.out
    have h0 := HW1.out
    have h4 : q = 0 ∨ q = 1 ∨ q = 2 ∨ q = 3 := by omega
    rcases h4 with rfl | rfl | rfl | rfl <;> simp [g4] <;> omega)))
  have HD10 := Lib.hid (HDa.out.fr hf HBl.out (fun k hk => by
    obtain ⟨q, hq, rfl⟩ := hk
    obtain ⟨cs, h1, _⟩ := HAR.out.typ q hq
    exact ⟨cs, h1⟩) (fun k hk hx => by
    obtain ⟨q, hq, rfl⟩ := hx
    have hA := HAll.out
    have h4 : q = 0 ∨ q = 1 ∨ q = 2 ∨ q = 3 := by omega
    rcases h4 with rfl | rfl | rfl | rfl <;> simp [g4] at hk <;> omega))
  clear hf HAR HDa HD9 HAll HBk
  go_wp2_with fail
  refine ((HD10.out.below (below_alloc (Below.refl _ _) _)).append HF5.out 1 _ [1] _ (sp2_3 HXl.out) (by decide) (Low.const_reads w10 [1] (0, 0) (by decide)) (Nat.le_refl _) (by decide)).mono ?_
  rintro e w11 ⟨rfl, F11, hD, hb, _, hk, _, hkt⟩
  have HD11 := Lib.hid hD
  have HF11 := Lib.hid hb
  clear hD hb hk hkt HD10 HF5
  go_wp2_with fail
  refine (HD11.out.read HF11.out 1 (sp3_r X) (by decide)).mono ?_
  rintro e w12 hp
  obtain ⟨Ae, ce, rfl, hr, hb⟩ := hp.len (k := 41) (by rw [List.length_append, HXl.out]; rfl)
  clear hp
  have HRe := Lib.hid hr
  have HB12 := Lib.hid (below_then HD11.out.bel HD11.out.bel.size hb)
  clear hr hb HD11
  go_wp2_with fail
  refine (HMd.out _).mono ?_
  rintro e w13 ⟨Am, cm, rfl, hr, hb⟩
  have HRm := Lib.hid hr
  have HRe13 := Lib.hid (Kd.R_below HRe.out hb)
  have HBm := Lib.hid hb
  have HB13 := Lib.hid (below_then HB12.out HB12.out.size hb)
  have H41 := Lib.hid (show (X ++ [(1 : Int)]).length = 41 by rw [List.length_append, HXl.out]; rfl)
  have HXe := Lib.hid (show ∀ x ∈ X ++ [(1 : Int)], 0 ≤ x ∧ x ≤ 255 from fun x hx => (List.mem_append.1 hx).elim (HXb.out x) (fun h => by rw [List.mem_singleton.1 h]; decide))
  clear hr hb HRe13
  go_wp2_with ((with_reducible refine gate_builtin (b := .append) (xs := #[.tmp 79, .tmp 80]) rfl ?_); (refine gate_guard (by rfl) ?_; dsimp only); at_builtin; refine Kd.R_append ku8 (w0 := w12) w12.heap.size rfl (.tmp 79) (.tmp 80) 24 5 (.int .u8 0) 1 rfl Try.underlying24 Low.info8 rfl (by decide) (by decide) (.slice Am 40 cm) X (1 : Int) [.int .u8 1] (fun _ => True) (fun _ => False) rfl rfl rfl (fun _ hk => hk.elim) (fun _ _ => trivial) HRm.out HBm.out HBm.out.size (by rw [HXl.out]; decide) ?_; intro v14 w14 ho hb hg _; obtain ⟨A14, c14, hv⟩ := Kd.R_slice ho; rw [H41.out] at hv; subst hv; have HRz := Lib.hid ho; have HRe14 := Lib.hid (Kd.R_below HRe.out hb); have HB14 := Lib.hid (below_then HB12.out HB12.out.size hb); clear ho hb hg)
  refine (same40 H41.out HRe14.out HRz.out HXe.out).mono ?_
  rintro e w15 ⟨rfl, hd⟩
  have HB15 := Lib.hid (below_then HB14.out HB14.out.size hd.below)
  clear hd
  go_wp2_with fail
  refine (awake_calls _).mono ?_
  rintro e w16 ⟨rfl, hb⟩
  have HB16 := Lib.hid (below_then HB15.out HB15.out.size hb)
  clear hb
  go_wp2
  go_ret
  exact ⟨rfl, HB16.out⟩
end Go.Proofs.Ytfggcdpipolahaa.PF
