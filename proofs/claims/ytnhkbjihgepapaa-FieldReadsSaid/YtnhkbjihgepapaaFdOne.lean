/- musterref04.one: the field that stands at a place. -/
import Derived.Test.YtnhkbjihgepapaaFdAll
import Derived.Test.YtnhkbjihgepapaaFdGet
set_option linter.unusedVariables false
set_option linter.unusedSimpArgs false
namespace Go.Proofs.Ytnhkbjihgepapaa.Fd
open Go.RowKit Go.Proofs.YtnhkbjihgepapaaW.PrintWords Go.Proofs.YtnhkbjihgepapaaW.PrintLast Go.Proofs.YtnhkbjihgepapaaW.PrintMore Go.Proofs.Ytnhkbjihgepapaa.PF Go.Proofs.Ytnhkbjihgepapaa.Oct Go.Proofs.Ytnhkbjihgepapaa.Gen
def nsR (l : List Int) : Nat → Int → Bool → List Int → List Int × Int × Bool
  | 0, q, o, acc => (acc, q, o)
  | k + 1, q, o, acc => if o = true then nsR l k (q + 8) (nok l q 8) (acc ++ [i64 (nv l q 8)]) else (acc, q, o)
def tsR (l : List Int) : Nat → Int → Bool → List ByteArray → List ByteArray × Int × Bool
  | 0, q, o, acc => (acc, q, o)
  | k + 1, q, o, acc => if o = true then tsR l k (tend l q) (tok l q) (acc ++ [strOfNums (txt l q)]) else (acc, q, o)
/-- What the document reads at a place: the field, the place behind it, and whether there is one. -/
def oneR (l : List Int) (p : Int) : Fl × Int × Bool :=
  if nok l (p + 1) 1 = true then
    (if nv l (p + 1) 1 = 1 then (⟨nv l p 1, 1, i64 (nv l (p + 2) 8), ⟨#[]⟩, [], []⟩, p + 10, nok l (p + 2) 8)
    else if nv l (p + 1) 1 = 2 then (⟨nv l p 1, 2, 0, strOfNums (txt l (p + 2)), [], []⟩, tend l (p + 2), tok l (p + 2))
    else if nv l (p + 1) 1 = 3 then (let r := nsR l (nv l (p + 2) 2).toNat (p + 4) (nok l (p + 2) 2) []; (⟨nv l p 1, 3, 0, ⟨#[]⟩, r.1, []⟩, r.2.1, r.2.2))
    else if nv l (p + 1) 1 = 4 then (let r := tsR l (nv l (p + 2) 2).toNat (p + 4) (nok l (p + 2) 2) []; (⟨nv l p 1, 4, 0, ⟨#[]⟩, [], r.1⟩, r.2.1, r.2.2))
    else (⟨nv l p 1, nv l (p + 1) 1, 0, ⟨#[]⟩, [], []⟩, 0, false))
  else (⟨nv l p 1, nv l (p + 1) 1, 0, ⟨#[]⟩, [], []⟩, 0, false)
abbrev ZC : Array Value := #[.int .u8 0, .int .u8 0, .int .i64 0, .string ⟨#[]⟩, .slice none 0 0, .slice none 0 0]
/-- The two boxes of a call. -/
def OW (w W : World) (b g : Nat) (cs : Array Value) : Prop := Below w.heap.size w W ∧ W.heap[b]? = some (.cells #[.int .u8 0, .int .u8 0, .int .i64 0, .string ⟨#[]⟩, .slice none 0 0, .slice none 0 0] 30 (0, 0)) ∧ W.heap[g]? = some (.cells cs 30 (0, 0)) ∧ w.heap.size ≤ b ∧ b < g
theorem OW.put {w W : World} {b g : Nat} {cs cs' : Array Value} (h : OW w W b g cs) (i : Nat) (u : Value) (e : cs.setIfInBounds i u = cs') : OW w (W.setCell ⟨g, i, none⟩ u) b g cs' := by
  obtain ⟨h1, h2, h3, h4, h5⟩ := h
  exact ⟨below_set h1 (by omega), blk_far (p := ⟨g, i, none⟩) h2 (show b ≠ g by omega) u, blk_put h3 i u e, h4, h5⟩
theorem OW.grown {w W W1 : World} {b g : Nat} {cs : Array Value} {row : Option Nat} (h : OW w W b g cs) (hB : Below w.heap.size w W1) (hg : W.grownBy W1 row) (hne : ∀ k, row = some k → g < k) : OW w W1 b g cs := by
  obtain ⟨h1, h2, h3, h4, h5⟩ := h
  exact ⟨hB, blk_grown h2 hg (fun e => by have := hne b e.symm; omega), blk_grown h3 hg (fun e => by have := hne g e.symm; omega), h4, h5⟩
/-- What the call hands back. -/
def OP (w : World) (x : Fl) (q : Int) (o : Bool) (e : Ending) (w' : World) : Prop := ∃ v4 v5, e = .returned (.tuple #[.agg #[.int .u8 x.f0, .int .u8 x.f1, .int .i64 x.f2, .string x.f3, v4, v5], .int .i64 q, .bool o]) ∧ Kd.R (Kd.int .i64) 2 w' w.heap.size (fun _ => True) v4 x.f4 ∧ Kd.R Kd.string 9 w' w.heap.size (fun _ => True) v5 x.f5 ∧ Below w.heap.size w w'
theorem R_far {α : Type} {d : Kd α} {e base g b : Nat} {W : World} {v : Value} {xs : List α} {cs : Array Value} (h : d.R e W base (fun k => g < k) v xs) (hb : b ≤ g) : d.R e (W.setRow b cs) base (fun _ => True) v xs :=
  Kd.R_mono (Kd.R_step h (fun k hk _ => setRow_other _ _ _ _ (by omega))) (fun _ _ => trivial)
set_option maxRecDepth 100000 in
set_option maxHeartbeats 8000000 in
theorem rone_calls (l : List Int) (A : Option Addr) (c nl : Nat) (hn : nl = l.length) (p : Int) (w : World) (hr : Kd.C (Kd.int .u8) w A l.length l) (hc : l.length ≤ c) (hb : ∀ x ∈ l, 0 ≤ x ∧ x ≤ 255) (hl : l.length ≤ 140737488355328) (h0 : 0 ≤ p) (h1 : p ≤ 1000000000000000000) :
    Calls Try.prog 45 #[.slice A nl c, .int .i64 p] w (OP w (oneR l p).1 (oneR l p).2.1 (oneR l p).2.2) := by
  have HNum := Lib.hid (fun W (hB : Below w.heap.size w W) (i : Int) (n : Nat) (h0 : 0 ≤ i) (h1 : i ≤ 2000000000000000000) (h2 : 1 ≤ n) (h3 : n ≤ 8) => show Calls Try.prog 53 #[.slice A nl c, .int .i64 i, .int .i64 n] W fun e w' => e = .returned (.tuple #[.int .u64 (nv l i n), .bool (nok l i n)]) ∧ W = w' by
    rw [hn]
    exact refNumber_calls A c l i n W (Kd.C_below hr hB) hb hl h3 h2 (by omega) (by omega))
  have HTxt := Lib.hid (fun W (hB : Below w.heap.size w W) (i : Int) (h0 : 0 ≤ i) (h1 : i ≤ 2000000000000000000) => show Calls Try.prog 54 #[.slice A nl c, .int .i64 i] W (Texts l i W) by
    rw [hn]
    exact refText_calls A c l i W (Kd.C_below hr hB) hc hb hl ⟨by omega, by omega⟩)
  have HBt := Lib.hid (And.intro hb hl)
  have HN := Lib.hid hn
  clear hr hc hb hl hn
  obtain ⟨t, ht⟩ : ∃ t, t = nv l p 1 := ⟨_, rfl⟩
  obtain ⟨kd, hkd⟩ : ∃ t, t = nv l (p + 1) 1 := ⟨_, rfl⟩
  obtain ⟨ok, hok⟩ : ∃ t, t = nok l (p + 1) 1 := ⟨_, rfl⟩
  have tr := nv_range l HBt.out.1 p 1
  have kr := nv_range l HBt.out.1 (p + 1) 1
  rw [← ht] at tr
  rw [← hkd] at kr
  have ht2 : t % 256 = t := by omega
  have hk2 : kd % 256 = kd := by omega
  have hk0 : 0 ≤ kd ∧ kd ≤ 255 := by omega
  have HD1 := Lib.hid (And.intro ht (And.intro hkd hok))
  clear tr kr ht hkd hok
  have hp1 : wrap64 (p + 1) = p + 1 := by unfold wrap64; omega
  have hp2 : wrap64 (p + 2) = p + 2 := by unfold wrap64; omega
  have HZ := Lib.hid (heap_alloc_new w (.cells #[.int .u8 0, .int .u8 0, .int .i64 0, .string ⟨#[]⟩, .slice none 0 0, .slice none 0 0] 30))
  have HBa := Lib.hid (below_alloc (Below.refl w.heap.size w) (.cells #[.int .u8 0, .int .u8 0, .int .i64 0, .string ⟨#[]⟩, .slice none 0 0, .slice none 0 0] 30))
  go_enter Try.func45, Try.ntmps45
  go_upto_region 1 with (fail)
  generalize World.alloc _ _ = W at HZ HBa ⊢
  obtain ⟨b, hbb⟩ : ∃ g, g = w.heap.size := ⟨_, rfl⟩
  rw [← hbb] at HZ ⊢
  have HGB := Lib.hid (show w.heap.size ≤ b by omega)
  clear hbb
  go_wp2_with fail
  refine (HNum.out W HBa.out p 1 h0 (by omega) (by omega) (by omega)).mono ?_
  rintro e w1 ⟨rfl, rfl⟩
  rw [← HD1.out.1]
  go_wp2_with fail
  refine (HNum.out W HBa.out (p + 1) 1 (by omega) (by omega) (by omega) (by omega)).mono ?_
  rintro e w1 ⟨rfl, rfl⟩
  rw [← HD1.out.2.1, ← HD1.out.2.2]
  have HX := Lib.hid (heap_alloc_new W (.cells #[.int .u8 0, .int .u8 0, .int .i64 0, .string ⟨#[]⟩, .slice none 0 0, .slice none 0 0] 30))
  go_upto_region 4 with (first | ((with_reducible refine gate_store (t := 30) (p := 11) rfl ?_); refine wl_store (old := #[.int .u8 0, .int .u8 0, .int .i64 0, .string ⟨#[]⟩, .slice none 0 0, .slice none 0 0]) (cells := #[.int .u8 t, .int .u8 kd, .int .i64 0, .string ⟨#[]⟩, .slice none 0 0, .slice none 0 0]) 30 (.tmp 11) (.tmp 41) rfl rfl rfl rfl HX.out infoFg rfl (by simp [Value.oneCell']) ?_) | fail)
  have hz5 := setRow_heap _ _ _ #[.int .u8 t, .int .u8 kd, .int .i64 0, .string ⟨#[]⟩, .slice none 0 0, .slice none 0 0] _ _ HX.out
  have hz6 := (setRow_other (W.alloc (.cells #[.int .u8 0, .int .u8 0, .int .i64 0, .string ⟨#[]⟩, .slice none 0 0, .slice none 0 0] 30)) W.heap.size b #[.int .u8 t, .int .u8 kd, .int .i64 0, .string ⟨#[]⟩, .slice none 0 0, .slice none 0 0] (Nat.ne_of_lt (blk_lt HZ.out))).trans (blk_alloc HZ.out _)
  have hb5 := below_setRow (below_alloc HBa.out (.cells #[.int .u8 0, .int .u8 0, .int .i64 0, .string ⟨#[]⟩, .slice none 0 0, .slice none 0 0] 30)) HBa.out.size #[.int .u8 t, .int .u8 kd, .int .i64 0, .string ⟨#[]⟩, .slice none 0 0, .slice none 0 0]
  have HO := Lib.hid (show OW w _ b W.heap.size _ from ⟨hb5, hz6, hz5, HGB.out, blk_lt HZ.out⟩)
  clear hz5 hz6 hb5 HX HZ HBa HGB
  generalize World.setRow _ _ _ = W3 at HO ⊢
  obtain ⟨g, hg⟩ : ∃ g, g = W.heap.size := ⟨_, rfl⟩
  rw [← hg] at HO ⊢
  clear hg
  have hv1 : W3.cell? ⟨g, 1, none⟩ = some (.int .u8 kd) := (blk_cell HO.out.2.2.1 1).trans rfl
  have R4 : Hid (Kd.R (Kd.int .i64) 2 W3 w.heap.size (fun k => g < k) (.slice none 0 0) []) := Lib.hid (Kd.R_nil _ _ _ _ _)
  have R5 : Hid (Kd.R Kd.string 9 W3 w.heap.size (fun k => g < k) (.slice none 0 0) []) := Lib.hid (Kd.R_nil _ _ _ _ _)
  have bad : ok = false ∨ (kd = 0 ∨ 4 < kd) → oneR l p = (⟨t, kd, 0, ⟨#[]⟩, [], []⟩, 0, false) := by
    intro h
    unfold oneR
    rw [← HD1.out.1, ← HD1.out.2.1, ← HD1.out.2.2]
    rcases h with h | h
    · rw [if_neg (by rw [h]; decide)]
    · rw [if_neg (show ¬ kd = 1 by omega), if_neg (show ¬ kd = 2 by omega), if_neg (show ¬ kd = 3 by omega), if_neg (show ¬ kd = 4 by omega), ite_self]
  have HBad := Lib.hid bad
  clear bad
  by_cases hbad : ok = false ∨ (kd = 0 ∨ 4 < kd)
  · have HE := Lib.hid (HBad.out hbad)
    rcases (show ok = false ∨ (ok = true ∧ kd = 0) ∨ (ok = true ∧ 4 < kd) by
      cases ok with
      | false => exact Or.inl rfl
      | true =>
        rcases hbad with h | h | h
        · cases h
        · exact Or.inr (Or.inl ⟨rfl, h⟩)
        · exact Or.inr (Or.inr ⟨rfl, h⟩)) with rfl | ⟨rfl, rfl⟩ | ⟨rfl, h4⟩
    · clear hbad
      go_wp2_with (first | ((with_reducible refine gate_ (.load 30 (.tmp 11)) rfl ?_); refine wl_load 30 (.tmp 11) rfl rfl _ _ rfl (fg_ld HO.out.2.2.1 rfl) ?_) | ((with_reducible refine gate_store (t := 30) (p := 4) rfl ?_); refine wl_store (old := #[.int .u8 0, .int .u8 0, .int .i64 0, .string ⟨#[]⟩, .slice none 0 0, .slice none 0 0]) (cells := #[.int .u8 t, .int .u8 kd, .int .i64 0, .string ⟨#[]⟩, .slice none 0 0, .slice none 0 0]) 30 (.tmp 4) (.tmp 52) rfl rfl rfl rfl HO.out.2.1 infoFg rfl (by simp [Value.oneCell']) ?_) | fail)
      refine bodyPost_ret (results_ctt rfl _ _ b 30 #[.int .u8 t, .int .u8 kd, .int .i64 0, .string ⟨#[]⟩, .slice none 0 0, .slice none 0 0] (0, 0) _ rfl (setRow_heap _ _ _ _ _ _ HO.out.2.1) Try.underlying30 rfl infoFg) rfl ?_
      rw [HE.out]
      exact ⟨_, _, (by first | rfl | rw [hp10]), Kd.R_nil _ _ _ _ _, Kd.R_nil _ _ _ _ _, below_setRow HO.out.1 HO.out.2.2.2.1 _⟩
    · clear hbad
      go_wp2_with (first | ((with_reducible refine gate_ (.load 30 (.tmp 11)) rfl ?_); refine wl_load 30 (.tmp 11) rfl rfl _ _ rfl (fg_ld HO.out.2.2.1 rfl) ?_) | ((with_reducible refine gate_store (t := 30) (p := 4) rfl ?_); refine wl_store (old := #[.int .u8 0, .int .u8 0, .int .i64 0, .string ⟨#[]⟩, .slice none 0 0, .slice none 0 0]) (cells := #[.int .u8 t, .int .u8 0, .int .i64 0, .string ⟨#[]⟩, .slice none 0 0, .slice none 0 0]) 30 (.tmp 4) (.tmp 52) rfl rfl rfl rfl HO.out.2.1 infoFg rfl (by simp [Value.oneCell']) ?_) | fail)
      refine bodyPost_ret (results_ctt rfl _ _ b 30 #[.int .u8 t, .int .u8 0, .int .i64 0, .string ⟨#[]⟩, .slice none 0 0, .slice none 0 0] (0, 0) _ rfl (setRow_heap _ _ _ _ _ _ HO.out.2.1) Try.underlying30 rfl infoFg) rfl ?_
      rw [HE.out]
      exact ⟨_, _, (by first | rfl | rw [hp10]), Kd.R_nil _ _ _ _ _, Kd.R_nil _ _ _ _ _, below_setRow HO.out.1 HO.out.2.2.2.1 _⟩
    · have d1 : decide (kd < 1) = false := decide_eq_false (by omega)
      have d2 : decide (4 < kd) = true := decide_eq_true h4
      have d3 : ¬ kd < 1 := by omega
      clear hbad
      go_wp2_with (first | ((with_reducible refine gate_ (.load 30 (.tmp 11)) rfl ?_); refine wl_load 30 (.tmp 11) rfl rfl _ _ rfl (fg_ld HO.out.2.2.1 rfl) ?_) | ((with_reducible refine gate_store (t := 30) (p := 4) rfl ?_); refine wl_store (old := #[.int .u8 0, .int .u8 0, .int .i64 0, .string ⟨#[]⟩, .slice none 0 0, .slice none 0 0]) (cells := #[.int .u8 t, .int .u8 kd, .int .i64 0, .string ⟨#[]⟩, .slice none 0 0, .slice none 0 0]) 30 (.tmp 4) (.tmp 52) rfl rfl rfl rfl HO.out.2.1 infoFg rfl (by simp [Value.oneCell']) ?_) | fail)
      refine bodyPost_ret (results_ctt rfl _ _ b 30 #[.int .u8 t, .int .u8 kd, .int .i64 0, .string ⟨#[]⟩, .slice none 0 0, .slice none 0 0] (0, 0) _ rfl (setRow_heap _ _ _ _ _ _ HO.out.2.1) Try.underlying30 rfl infoFg) rfl ?_
      rw [HE.out]
      exact ⟨_, _, (by first | rfl | rw [hp10]), Kd.R_nil _ _ _ _ _, Kd.R_nil _ _ _ _ _, below_setRow HO.out.1 HO.out.2.2.2.1 _⟩
  · rcases (show ok = true ∧ (kd = 1 ∨ kd = 2 ∨ kd = 3 ∨ kd = 4) by
      cases ok with
      | false => exact absurd (Or.inl rfl) hbad
      | true => exact ⟨rfl, by omega⟩) with ⟨rfl, rfl | rfl | rfl | rfl⟩
    · have HE := Lib.hid (show oneR l p = (⟨t, 1, i64 (nv l (p + 2) 8), ⟨#[]⟩, [], []⟩, p + 10, nok l (p + 2) 8) by
        unfold oneR
        rw [← HD1.out.1, ← HD1.out.2.1, ← HD1.out.2.2, if_pos rfl, if_pos rfl])
      have hp10 : wrap64 (p + 2 + 8) = p + 2 + 8 := by unfold wrap64; omega
      have z2 : W3.frozen? ⟨g, 2, none⟩ = false := blk_frozen HO.out.2.2.1 2
      have c2 : W3.cell? ⟨g, 2, none⟩ = some (.int .i64 0) := (blk_cell HO.out.2.2.1 2).trans rfl
      clear hbad
      go_wp2_with fail
      refine (HNum.out W3 HO.out.1 (p + 2) 8 (by omega) (by omega) (by omega) (by omega)).mono ?_
      rintro e w1 ⟨rfl, rfl⟩
      go_upto_region 10 with (fail)
      have HO1 := Lib.hid (HO.out.put 2 (.int .i64 (wrap64 (nv l (p + 2) 8))) rfl)
      clear z2 c2 HO R4 R5 hv1
      generalize World.setCell _ _ _ = W4 at HO1 ⊢
      go_wp2_with (first | ((with_reducible refine gate_ (.load 30 (.tmp 11)) rfl ?_); refine wl_load 30 (.tmp 11) rfl rfl _ _ rfl (fg_ld HO1.out.2.2.1 rfl) ?_) | ((with_reducible refine gate_store (t := 30) (p := 4) rfl ?_); refine wl_store (old := #[.int .u8 0, .int .u8 0, .int .i64 0, .string ⟨#[]⟩, .slice none 0 0, .slice none 0 0]) (cells := #[.int .u8 t, .int .u8 1, .int .i64 (wrap64 (nv l (p + 2) 8)), .string ⟨#[]⟩, .slice none 0 0, .slice none 0 0]) 30 (.tmp 4) (.tmp 67) rfl rfl rfl rfl HO1.out.2.1 infoFg rfl (by simp [Value.oneCell']) ?_) | fail)
      refine bodyPost_ret (results_ctt rfl _ _ b 30 #[.int .u8 t, .int .u8 1, .int .i64 (wrap64 (nv l (p + 2) 8)), .string ⟨#[]⟩, .slice none 0 0, .slice none 0 0] (0, 0) _ rfl (setRow_heap _ _ _ _ _ _ HO1.out.2.1) Try.underlying30 rfl infoFg) rfl ?_
      rw [HE.out]
      rw [show (p + 10 : Int) = p + 2 + 8 by omega]
      exact ⟨_, _, (by first | rfl | rw [hp10]), Kd.R_nil _ _ _ _ _, Kd.R_nil _ _ _ _ _, below_setRow HO1.out.1 HO1.out.2.2.2.1 _⟩
    · have HE := Lib.hid (show oneR l p = (⟨t, 2, 0, strOfNums (txt l (p + 2)), [], []⟩, tend l (p + 2), tok l (p + 2)) by
        unfold oneR
        rw [← HD1.out.1, ← HD1.out.2.1, ← HD1.out.2.2, if_pos rfl, if_neg (by decide), if_pos rfl])
      have z2 : W3.frozen? ⟨g, 3, none⟩ = false := blk_frozen HO.out.2.2.1 3
      have c2 : W3.cell? ⟨g, 3, none⟩ = some (.string ⟨#[]⟩) := (blk_cell HO.out.2.2.1 3).trans rfl
      clear hbad
      go_wp2_with fail
      refine (HTxt.out W3 HO.out.1 (p + 2) (by omega) (by omega)).mono ?_
      rintro e w1 ⟨rfl, rfl⟩
      go_upto_region 14 with (fail)
      have HO1 := Lib.hid (HO.out.put 3 (.string (strOfNums (txt l (p + 2)))) rfl)
      clear z2 c2 HO R4 R5 hv1
      generalize World.setCell _ _ _ = W4 at HO1 ⊢
      go_wp2_with (first | ((with_reducible refine gate_ (.load 30 (.tmp 11)) rfl ?_); refine wl_load 30 (.tmp 11) rfl rfl _ _ rfl (fg_ld HO1.out.2.2.1 rfl) ?_) | ((with_reducible refine gate_store (t := 30) (p := 4) rfl ?_); refine wl_store (old := #[.int .u8 0, .int .u8 0, .int .i64 0, .string ⟨#[]⟩, .slice none 0 0, .slice none 0 0]) (cells := #[.int .u8 t, .int .u8 2, .int .i64 0, .string (strOfNums (txt l (p + 2))), .slice none 0 0, .slice none 0 0]) 30 (.tmp 4) (.tmp 83) rfl rfl rfl rfl HO1.out.2.1 infoFg rfl (by simp [Value.oneCell']) ?_) | fail)
      refine bodyPost_ret (results_ctt rfl _ _ b 30 #[.int .u8 t, .int .u8 2, .int .i64 0, .string (strOfNums (txt l (p + 2))), .slice none 0 0, .slice none 0 0] (0, 0) _ rfl (setRow_heap _ _ _ _ _ _ HO1.out.2.1) Try.underlying30 rfl infoFg) rfl ?_
      rw [HE.out]
      exact ⟨_, _, (by first | rfl | rw [hp10]), Kd.R_nil _ _ _ _ _, Kd.R_nil _ _ _ _ _, below_setRow HO1.out.1 HO1.out.2.2.2.1 _⟩
    · have HE0 := Lib.hid (show oneR l p = (let r := nsR l (nv l (p + 2) 2).toNat (p + 4) (nok l (p + 2) 2) []; (⟨t, 3, 0, ⟨#[]⟩, r.1, []⟩, r.2.1, r.2.2)) by
        unfold oneR
        rw [← HD1.out.1, ← HD1.out.2.1, ← HD1.out.2.2, if_pos rfl, if_neg (by decide), if_neg (by decide), if_pos rfl])
      have hp4 : wrap64 (p + 2 + 2) = p + 2 + 2 := by unfold wrap64; omega
      have nr := nv_range l HBt.out.1 (p + 2) 2
      obtain ⟨N, hN⟩ : ∃ N : Nat, nv l (p + 2) 2 = (N : Int) := ⟨(nv l (p + 2) 2).toNat, by omega⟩
      rw [hN] at nr HE0
      rw [Int.toNat_natCast] at HE0
      have hwN : wrap64 (N : Int) = N := by unfold wrap64; omega
      have hN2 : N ≤ 65535 := by omega
      clear hbad nr
      go_wp2_with fail
      refine (HNum.out W3 HO.out.1 (p + 2) 2 (by omega) (by omega) (by omega) (by omega)).mono ?_
      rintro e w1 ⟨rfl, rfl⟩
      rw [hN]
      clear hN
      obtain ⟨o0, ho0⟩ : ∃ o, o = nok l (p + 2) 2 := ⟨_, rfl⟩
      rw [← ho0] at HE0 ⊢
      clear ho0
      go_wp2
      go_loopw [1, 10, 18] (fun va vo vi wr => ∃ (j : Nat) (q : Int) (o : Bool) (acc : List Int) (A4 : Option Addr) (m c4 : Nat), j ≤ N ∧ va = .int .i64 q ∧ vo = .bool o ∧ vi = .int .i64 j ∧ Hid (nsR l N (p + 4) o0 [] = nsR l (N - j) q o acc) ∧ Hid (0 ≤ q ∧ q ≤ 1000000000000000010 + 8 * j) ∧ Hid (m = acc.length ∧ acc.length = j) ∧ Hid (OW w wr b g #[.int .u8 t, .int .u8 3, .int .i64 0, .string ⟨#[]⟩, .slice A4 m c4, .slice none 0 0]) ∧ Hid (Kd.R (Kd.int .i64) 2 wr w.heap.size (fun k => g < k) (.slice A4 m c4) acc)) (fun _ _ vi _ => N - (intOf vi).toNat)
      case atStart => exact ⟨0, p + 2 + 2, o0, [], none, 0, 0, Nat.zero_le _, rfl, rfl, rfl, Lib.hid (by rw [Nat.sub_zero, show p + 2 + 2 = p + 4 by omega]), Lib.hid (by omega), Lib.hid ⟨rfl, rfl⟩, HO, R4⟩
      case round =>
        clear HO R4 R5 hv1
        obtain ⟨j, q, o, acc, A4, m, c4, hj, rfl, rfl, rfl, HS, HQ, HM, HO, HR⟩ := hrel
        have hv1 : wr.cell? ⟨g, 1, none⟩ = some (.int .u8 3) := (blk_cell HO.out.2.2.1 1).trans rfl
        cases o with
        | false =>
          have HE := Lib.hid (show oneR l p = (⟨t, 3, 0, ⟨#[]⟩, acc, []⟩, q, false) by
            rw [HE0.out, HS.out]
            cases N - j <;> rfl)
          go_wp2_with (first | ((with_reducible refine gate_ (.load 30 (.tmp 11)) rfl ?_); refine wl_load 30 (.tmp 11) rfl rfl _ _ rfl (fg_ld HO.out.2.2.1 rfl) ?_) | ((with_reducible refine gate_store (t := 30) (p := 4) rfl ?_); refine wl_store (old := #[.int .u8 0, .int .u8 0, .int .i64 0, .string ⟨#[]⟩, .slice none 0 0, .slice none 0 0]) (cells := #[.int .u8 t, .int .u8 3, .int .i64 0, .string ⟨#[]⟩, .slice A4 m c4, .slice none 0 0]) 30 (.tmp 4) (.tmp 137) rfl rfl rfl rfl HO.out.2.1 infoFg rfl (by simp [Value.oneCell']) ?_) | fail)
          refine bodyPost_ret (results_ctt rfl _ _ b 30 #[.int .u8 t, .int .u8 3, .int .i64 0, .string ⟨#[]⟩, .slice A4 m c4, .slice none 0 0] (0, 0) _ rfl (setRow_heap _ _ _ _ _ _ HO.out.2.1) Try.underlying30 rfl infoFg) rfl ?_
          rw [HE.out]
          exact ⟨_, _, (by first | rfl | rw [hp10]), R_far HR.out (Nat.le_of_lt HO.out.2.2.2.2), Kd.R_nil _ _ _ _ _, below_setRow HO.out.1 HO.out.2.2.2.1 _⟩
        | true =>
          by_cases hlt : j < N
          · have HN1 := Lib.hid (show N - j = (N - (j + 1)) + 1 by omega)
            have hq := HQ.out
            have hal : acc.length ≤ 65535 := by have := HM.out.2; omega
            have c4' : wr.cell? ⟨g, 4, none⟩ = some (.slice A4 m c4) := (blk_cell HO.out.2.2.1 4).trans rfl
            have hq8 : wrap64 (q + 8) = q + 8 := by unfold wrap64; omega
            go_wp2_with fail
            refine (HNum.out wr HO.out.1 q 8 (by omega) (by omega) (by omega) (by omega)).mono ?_
            rintro e w1 ⟨rfl, rfl⟩
            obtain ⟨v, hv⟩ : ∃ v, v = nv l q 8 := ⟨_, rfl⟩
            obtain ⟨o1, ho1⟩ : ∃ v, v = nok l q 8 := ⟨_, rfl⟩
            rw [← hv, ← ho1]
            have HV := Lib.hid (And.intro hv ho1)
            clear hv ho1 hq
            go_upto_region 23 with (first | ((with_reducible refine gate_builtin (b := .append) (xs := #[.tmp 113, .tmp 116]) rfl ?_); at_builtin; refine Kd.R_append (Kd.int .i64) (w0 := w) w.heap.size rfl (.tmp 113) (.tmp 116) 27 2 (.int .i64 0) 8 rfl Try.underlying27 infoI64 rfl (by decide) (by decide) (.slice A4 m c4) acc (wrap64 v) [.int .i64 (wrap64 v)] (fun k => g < k) (fun _ => False) rfl rfl rfl (fun _ hk => hk.elim) (fun k hk => Nat.lt_of_lt_of_le (blk_lt HO.out.2.2.1) hk) HR.out HO.out.1 HO.out.1.size (by omega) ?_; intro v6 w6 ho hb hg _; obtain ⟨A6, c6, hv6⟩ := Kd.R_slice ho; obtain ⟨n6, hn6⟩ : ∃ n, n = (acc ++ [(wrap64 v)]).length := ⟨_, rfl⟩; rw [← hn6] at hv6; subst hv6; have HN6 := Lib.hid hn6; have HR6 := Lib.hid ho; have HO6 := Lib.hid (HO.out.grown hb hg HR.out.1); have z4 : w6.frozen? ⟨g, 4, none⟩ = false := blk_frozen HO6.out.2.2.1 4; have c6' : w6.cell? ⟨g, 4, none⟩ = some (.slice A4 m c4) := (blk_cell HO6.out.2.2.1 4).trans rfl; clear hn6 ho hb hg c4' hv1) | fail)
            have HO7 := Lib.hid (HO6.out.put 4 (.slice A6 n6 c6) rfl)
            have HR7 := Lib.hid (Kd.R_step HR6.out (w1 := w6.setCell ⟨g, 4, none⟩ (.slice A6 n6 c6)) (fun k hk _ => Below.heap_setCell w6 ⟨g, 4, none⟩ _ k (show k ≠ g from Nat.ne_of_gt hk)))
            clear z4 c6' HO6 HR6
            generalize World.setCell _ _ _ = W7 at HO7 HR7 ⊢
            go_wp2
            go_roundw
            case rel => exact ⟨j + 1, q + 8, o1, acc ++ [(wrap64 v)], A6, n6, c6, by omega, (by first | rfl | rw [hq8]), rfl, by simp, Lib.hid (by
              rw [HS.out, HN1.out]
              rw [HV.out.1, HV.out.2]
              rfl), Lib.hid (by have := HQ.out; omega), Lib.hid ⟨HN6.out, by rw [List.length_append, HM.out.2]; rfl⟩, HO7, HR7⟩
            case measure => simp [intOf]; omega
          · obtain rfl : N = j := by omega
            have HE := Lib.hid (show oneR l p = (⟨t, 3, 0, ⟨#[]⟩, acc, []⟩, q, true) by
              rw [HE0.out, HS.out, Nat.sub_self]
              rfl)
            go_wp2_with (first | ((with_reducible refine gate_ (.load 30 (.tmp 11)) rfl ?_); refine wl_load 30 (.tmp 11) rfl rfl _ _ rfl (fg_ld HO.out.2.2.1 rfl) ?_) | ((with_reducible refine gate_store (t := 30) (p := 4) rfl ?_); refine wl_store (old := #[.int .u8 0, .int .u8 0, .int .i64 0, .string ⟨#[]⟩, .slice none 0 0, .slice none 0 0]) (cells := #[.int .u8 t, .int .u8 3, .int .i64 0, .string ⟨#[]⟩, .slice A4 m c4, .slice none 0 0]) 30 (.tmp 4) (.tmp 137) rfl rfl rfl rfl HO.out.2.1 infoFg rfl (by simp [Value.oneCell']) ?_) | fail)
            refine bodyPost_ret (results_ctt rfl _ _ b 30 #[.int .u8 t, .int .u8 3, .int .i64 0, .string ⟨#[]⟩, .slice A4 m c4, .slice none 0 0] (0, 0) _ rfl (setRow_heap _ _ _ _ _ _ HO.out.2.1) Try.underlying30 rfl infoFg) rfl ?_
            rw [HE.out]
            exact ⟨_, _, (by first | rfl | rw [hp10]), R_far HR.out (Nat.le_of_lt HO.out.2.2.2.2), Kd.R_nil _ _ _ _ _, below_setRow HO.out.1 HO.out.2.2.2.1 _⟩
    · have HE0 := Lib.hid (show oneR l p = (let r := tsR l (nv l (p + 2) 2).toNat (p + 4) (nok l (p + 2) 2) []; (⟨t, 4, 0, ⟨#[]⟩, [], r.1⟩, r.2.1, r.2.2)) by
        unfold oneR
        rw [← HD1.out.1, ← HD1.out.2.1, ← HD1.out.2.2, if_pos rfl, if_neg (by decide), if_neg (by decide), if_neg (by decide), if_pos rfl])
      have hp4 : wrap64 (p + 2 + 2) = p + 2 + 2 := by unfold wrap64; omega
      have nr := nv_range l HBt.out.1 (p + 2) 2
      obtain ⟨N, hN⟩ : ∃ N : Nat, nv l (p + 2) 2 = (N : Int) := ⟨(nv l (p + 2) 2).toNat, by omega⟩
      rw [hN] at nr HE0
      rw [Int.toNat_natCast] at HE0
      have hwN : wrap64 (N : Int) = N := by unfold wrap64; omega
      have hN2 : N ≤ 65535 := by omega
      clear hbad nr
      go_wp2_with fail
      refine (HNum.out W3 HO.out.1 (p + 2) 2 (by omega) (by omega) (by omega) (by omega)).mono ?_
      rintro e w1 ⟨rfl, rfl⟩
      rw [hN]
      clear hN
      obtain ⟨o0, ho0⟩ : ∃ o, o = nok l (p + 2) 2 := ⟨_, rfl⟩
      rw [← ho0] at HE0 ⊢
      clear ho0
      go_wp2
      go_loopw [1, 10, 18] (fun va vo vi wr => ∃ (j : Nat) (q : Int) (o : Bool) (acc : List ByteArray) (A4 : Option Addr) (m c4 : Nat), j ≤ N ∧ va = .int .i64 q ∧ vo = .bool o ∧ vi = .int .i64 j ∧ Hid (tsR l N (p + 4) o0 [] = tsR l (N - j) q o acc) ∧ Hid (0 ≤ q ∧ q ≤ 1000000000000000010 + 8 * j) ∧ Hid (m = acc.length ∧ acc.length = j) ∧ Hid (OW w wr b g #[.int .u8 t, .int .u8 4, .int .i64 0, .string ⟨#[]⟩, .slice none 0 0, .slice A4 m c4]) ∧ Hid (Kd.R Kd.string 9 wr w.heap.size (fun k => g < k) (.slice A4 m c4) acc)) (fun _ _ vi _ => N - (intOf vi).toNat)
      case atStart => exact ⟨0, p + 2 + 2, o0, [], none, 0, 0, Nat.zero_le _, rfl, rfl, rfl, Lib.hid (by rw [Nat.sub_zero, show p + 2 + 2 = p + 4 by omega]), Lib.hid (by omega), Lib.hid ⟨rfl, rfl⟩, HO, R5⟩
      case round =>
        clear HO R4 R5 hv1
        obtain ⟨j, q, o, acc, A4, m, c4, hj, rfl, rfl, rfl, HS, HQ, HM, HO, HR⟩ := hrel
        have hv1 : wr.cell? ⟨g, 1, none⟩ = some (.int .u8 4) := (blk_cell HO.out.2.2.1 1).trans rfl
        cases o with
        | false =>
          have HE := Lib.hid (show oneR l p = (⟨t, 4, 0, ⟨#[]⟩, [], acc⟩, q, false) by
            rw [HE0.out, HS.out]
            cases N - j <;> rfl)
          go_wp2_with (first | ((with_reducible refine gate_ (.load 30 (.tmp 11)) rfl ?_); refine wl_load 30 (.tmp 11) rfl rfl _ _ rfl (fg_ld HO.out.2.2.1 rfl) ?_) | ((with_reducible refine gate_store (t := 30) (p := 4) rfl ?_); refine wl_store (old := #[.int .u8 0, .int .u8 0, .int .i64 0, .string ⟨#[]⟩, .slice none 0 0, .slice none 0 0]) (cells := #[.int .u8 t, .int .u8 4, .int .i64 0, .string ⟨#[]⟩, .slice none 0 0, .slice A4 m c4]) 30 (.tmp 4) (.tmp 137) rfl rfl rfl rfl HO.out.2.1 infoFg rfl (by simp [Value.oneCell']) ?_) | fail)
          refine bodyPost_ret (results_ctt rfl _ _ b 30 #[.int .u8 t, .int .u8 4, .int .i64 0, .string ⟨#[]⟩, .slice none 0 0, .slice A4 m c4] (0, 0) _ rfl (setRow_heap _ _ _ _ _ _ HO.out.2.1) Try.underlying30 rfl infoFg) rfl ?_
          rw [HE.out]
          exact ⟨_, _, (by first | rfl | rw [hp10]), Kd.R_nil _ _ _ _ _, R_far HR.out (Nat.le_of_lt HO.out.2.2.2.2), below_setRow HO.out.1 HO.out.2.2.2.1 _⟩
        | true =>
          by_cases hlt : j < N
          · have HN1 := Lib.hid (show N - j = (N - (j + 1)) + 1 by omega)
            have hq := HQ.out
            have hal : acc.length ≤ 65535 := by have := HM.out.2; omega
            have c4' : wr.cell? ⟨g, 5, none⟩ = some (.slice A4 m c4) := (blk_cell HO.out.2.2.1 5).trans rfl
            go_wp2_with fail
            refine (HTxt.out wr HO.out.1 q (by omega) (by omega)).mono ?_
            rintro e w1 ⟨rfl, rfl⟩
            obtain ⟨v, hv⟩ : ∃ v, v = strOfNums (txt l q) := ⟨_, rfl⟩
            obtain ⟨q1, hq1⟩ : ∃ v, v = tend l q := ⟨_, rfl⟩
            obtain ⟨o1, ho1⟩ : ∃ v, v = tok l q := ⟨_, rfl⟩
            rw [← hv, ← ho1, ← hq1]
            have HV := Lib.hid (And.intro hv (And.intro hq1 ho1))
            clear hv ho1 hq hq1
            go_upto_region 27 with (first | ((with_reducible refine gate_builtin (b := .append) (xs := #[.tmp 130, .tmp 132]) rfl ?_); at_builtin; refine Kd.R_append Kd.string (w0 := w) w.heap.size rfl (.tmp 130) (.tmp 132) 28 9 (.string ⟨#[]⟩) 16 rfl Try.underlying28 infoStr rfl (by decide) (by decide) (.slice A4 m c4) acc v [.string v] (fun k => g < k) (fun _ => False) rfl rfl rfl (fun _ hk => hk.elim) (fun k hk => Nat.lt_of_lt_of_le (blk_lt HO.out.2.2.1) hk) HR.out HO.out.1 HO.out.1.size (by omega) ?_; intro v6 w6 ho hb hg _; obtain ⟨A6, c6, hv6⟩ := Kd.R_slice ho; obtain ⟨n6, hn6⟩ : ∃ n, n = (acc ++ [v]).length := ⟨_, rfl⟩; rw [← hn6] at hv6; subst hv6; have HN6 := Lib.hid hn6; have HR6 := Lib.hid ho; have HO6 := Lib.hid (HO.out.grown hb hg HR.out.1); have z4 : w6.frozen? ⟨g, 5, none⟩ = false := blk_frozen HO6.out.2.2.1 5; have c6' : w6.cell? ⟨g, 5, none⟩ = some (.slice A4 m c4) := (blk_cell HO6.out.2.2.1 5).trans rfl; clear hn6 ho hb hg c4' hv1) | fail)
            have HO7 := Lib.hid (HO6.out.put 5 (.slice A6 n6 c6) rfl)
            have HR7 := Lib.hid (Kd.R_step HR6.out (w1 := w6.setCell ⟨g, 5, none⟩ (.slice A6 n6 c6)) (fun k hk _ => Below.heap_setCell w6 ⟨g, 5, none⟩ _ k (show k ≠ g from Nat.ne_of_gt hk)))
            clear z4 c6' HO6 HR6
            generalize World.setCell _ _ _ = W7 at HO7 HR7 ⊢
            go_wp2
            go_roundw
            case rel => exact ⟨j + 1, q1, o1, acc ++ [v], A6, n6, c6, by omega, (by first | rfl | rw [hq8]), rfl, by simp, Lib.hid (by
              rw [HS.out, HN1.out]
              rw [HV.out.1, HV.out.2.1, HV.out.2.2]
              rfl), Lib.hid (by have := HQ.out; have := tend_nn HBt.out.1 q; have := HBt.out.2; have := HV.out.2.1; omega), Lib.hid ⟨HN6.out, by rw [List.length_append, HM.out.2]; rfl⟩, HO7, HR7⟩
            case measure => simp [intOf]; omega
          · obtain rfl : N = j := by omega
            have HE := Lib.hid (show oneR l p = (⟨t, 4, 0, ⟨#[]⟩, [], acc⟩, q, true) by
              rw [HE0.out, HS.out, Nat.sub_self]
              rfl)
            go_wp2_with (first | ((with_reducible refine gate_ (.load 30 (.tmp 11)) rfl ?_); refine wl_load 30 (.tmp 11) rfl rfl _ _ rfl (fg_ld HO.out.2.2.1 rfl) ?_) | ((with_reducible refine gate_store (t := 30) (p := 4) rfl ?_); refine wl_store (old := #[.int .u8 0, .int .u8 0, .int .i64 0, .string ⟨#[]⟩, .slice none 0 0, .slice none 0 0]) (cells := #[.int .u8 t, .int .u8 4, .int .i64 0, .string ⟨#[]⟩, .slice none 0 0, .slice A4 m c4]) 30 (.tmp 4) (.tmp 137) rfl rfl rfl rfl HO.out.2.1 infoFg rfl (by simp [Value.oneCell']) ?_) | fail)
            refine bodyPost_ret (results_ctt rfl _ _ b 30 #[.int .u8 t, .int .u8 4, .int .i64 0, .string ⟨#[]⟩, .slice none 0 0, .slice A4 m c4] (0, 0) _ rfl (setRow_heap _ _ _ _ _ _ HO.out.2.1) Try.underlying30 rfl infoFg) rfl ?_
            rw [HE.out]
            exact ⟨_, _, (by first | rfl | rw [hp10]), Kd.R_nil _ _ _ _ _, R_far HR.out (Nat.le_of_lt HO.out.2.2.2.2), below_setRow HO.out.1 HO.out.2.2.2.1 _⟩
def okOne (l : List Int) (p : Int) : Bool := decide (l.length ≤ 140737488355328) && l.all (fun x => decide (0 ≤ x ∧ x ≤ 255)) && decide (0 ≤ p ∧ p ≤ 1000000000000000000)
theorem okOne_iff {l : List Int} {p : Int} : okOne l p = true ↔ l.length ≤ 140737488355328 ∧ (∀ x ∈ l, 0 ≤ x ∧ x ≤ 255) ∧ (0 ≤ p ∧ p ≤ 1000000000000000000) := by
  unfold okOne
  simp only [Bool.and_eq_true, decide_eq_true_eq, List.all_eq_true, and_assoc]
theorem rone_ok (A : Option Addr) (c : Nat) (l : List Int) (p : Int) (w : World) (hr : Kd.C (Kd.int .u8) w A l.length l) (hc : l.length ≤ c) (ho : okOne l p = true) : Calls Try.prog 45 #[.slice A l.length c, .int .i64 p] w (OP w (oneR l p).1 (oneR l p).2.1 (oneR l p).2.2) := by
  obtain ⟨h1, h2, h3, h4⟩ := okOne_iff.1 ho
  exact rone_calls l A c l.length rfl p w hr hc h2 h1 h3 h4
end Go.Proofs.Ytnhkbjihgepapaa.Fd
