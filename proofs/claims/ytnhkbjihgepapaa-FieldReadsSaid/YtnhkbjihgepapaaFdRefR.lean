/- The document's right field. -/
import Derived.Test.YtnhkbjihgepapaaFdPutE
import Derived.Test.YtnhkbjihgepapaaFdGet
set_option linter.unusedVariables false
set_option linter.unusedSimpArgs false
namespace Go.Proofs.Ytnhkbjihgepapaa.Fd
open Go.RowKit Go.Proofs.YtnhkbjihgepapaaW.PrintWords Go.Proofs.YtnhkbjihgepapaaW.PrintLast Go.Proofs.YtnhkbjihgepapaaW.PrintMore Go.Proofs.Ytnhkbjihgepapaa.PF Go.Proofs.Ytnhkbjihgepapaa.Oct Go.Proofs.Ytnhkbjihgepapaa.EvK Go.Proofs.Ytnhkbjihgepapaa.Gen
theorem Same1_calls (x y : Fl) (A4 : Option Addr) (c4 n4 : Nat) (A5 : Option Addr) (c5 n5 : Nat) (B4 : Option Addr) (d4 m4 : Nat) (B5 : Option Addr) (d5 m5 : Nat) (h4 : n4 = x.f4.length) (h5 : n5 = x.f5.length) (k4 : m4 = y.f4.length) (k5 : m5 = y.f5.length) (w : World)
    (r4 : Kd.C (Kd.int .i64) w A4 x.f4.length x.f4) (e4 : x.f4.length ≤ c4) (r5 : Kd.C Kd.string w A5 x.f5.length x.f5) (e5 : x.f5.length ≤ c5) (s4 : Kd.C (Kd.int .i64) w B4 y.f4.length y.f4) (f4 : y.f4.length ≤ d4) (s5 : Kd.C Kd.string w B5 y.f5.length y.f5) (f5 : y.f5.length ≤ d5) (hm : Mem9 x) :
    Calls Try.prog 19 #[.agg #[.int .u8 x.f0, .int .u8 x.f1, .int .i64 x.f2, .string x.f3, .slice A4 n4 c4, .slice A5 n5 c5], .agg #[.int .u8 y.f0, .int .u8 y.f1, .int .i64 y.f2, .string y.f3, .slice B4 m4 d4, .slice B5 m5 d5]] w fun e w' => e = .returned (.bool (decide (x = y))) ∧ Below w.heap.size w w' := by
  subst h4 h5 k4 k5
  obtain ⟨k, hk⟩ := Ev.the (sameF_ev x y hm)
  exact musterlow_SameField.calls k x.f0 x.f1 x.f2 x.f3 A4 c4 x.f4 A5 c5 x.f5 y.f0 y.f1 y.f2 y.f3 B4 d4 y.f4 B5 d5 y.f5 _ w r4 e4 r5 e5 s4 f4 s5 f5 hk
theorem emp_or (s : ByteArray) : (!(!s.toList.isEmpty)) = decide (s = ⟨#[]⟩) := by
  rw [Bool.not_not, Bool.eq_iff_iff, empty_iff, decide_eq_true_iff]
theorem nil_or {α : Type} (l : List α) : (!decide (0 < l.length)) = decide (l.length = 0) := by
  rw [Bool.eq_iff_iff, Bool.not_eq_true', decide_eq_false_iff_not, decide_eq_true_iff]
  omega
theorem rf1 (t n : Int) (s : ByteArray) (ns : List Int) (ts : List ByteArray) : rightF 1 n s ns ts = ((n != 0) && decide ((⟨t, 1, n, s, ns, ts⟩ : Fl) = ⟨t, 1, n, ⟨#[]⟩, [], []⟩)) := by
  unfold rightF
  rw [if_pos rfl, emp_or, nil_or, nil_or, Bool.eq_iff_iff]
  simp [← fl_ext, and_assoc]
theorem rf2 (t n : Int) (s : ByteArray) (ns : List Int) (ts : List ByteArray) : rightF 2 n s ns ts = (((!s.toList.isEmpty) && decide ((s.size : Int) ≤ 65535)) && decide ((⟨t, 2, n, s, ns, ts⟩ : Fl) = ⟨t, 2, 0, s, [], []⟩)) := by
  unfold rightF
  rw [if_neg (by decide), if_pos rfl, nil_or, nil_or, Bool.eq_iff_iff]
  simp [← fl_ext, and_assoc]
  exact fun _ => ⟨fun ⟨a, b, c, d⟩ => ⟨d, a, b, c⟩, fun ⟨d, a, b, c⟩ => ⟨a, b, c, d⟩⟩
theorem rf3 (t n : Int) (s : ByteArray) (ns : List Int) (ts : List ByteArray) : rightF 3 n s ns ts = ((decide (1 ≤ ns.length) && decide ((ns.length : Int) ≤ 256)) && decide ((⟨t, 3, n, s, ns, ts⟩ : Fl) = ⟨t, 3, 0, ⟨#[]⟩, ns, []⟩)) := by
  unfold rightF
  rw [if_neg (by decide), if_neg (by decide), if_pos rfl, emp_or, nil_or, Bool.eq_iff_iff]
  simp [← fl_ext, and_assoc]
  constructor
  · rintro ⟨h1, h2, h3, h4, h5⟩
    exact ⟨h1, h5, h2, h3, h4⟩
  · rintro ⟨h1, h5, h2, h3, h4⟩
    exact ⟨h1, h2, h3, h4, h5⟩
theorem rf4 (t n : Int) (s : ByteArray) (ns : List Int) (ts : List ByteArray) (hl : ts.any longS = false) : rightF 4 n s ns ts = ((decide (1 ≤ ts.length) && decide ((ts.length : Int) ≤ 256)) && decide ((⟨t, 4, n, s, ns, ts⟩ : Fl) = ⟨t, 4, 0, ⟨#[]⟩, [], ts⟩)) := by
  unfold rightF
  rw [if_neg (by decide), if_neg (by decide), if_neg (by decide), if_pos rfl, emp_or, nil_or, hl, Bool.eq_iff_iff]
  simp [← fl_ext, and_assoc]
  constructor
  · rintro ⟨h1, h2, h3, h4, h5⟩
    exact ⟨h1, h5, h2, h3, h4⟩
  · rintro ⟨h1, h5, h2, h3, h4⟩
    exact ⟨h1, h2, h3, h4, h5⟩
theorem rf4' (n : Int) (s : ByteArray) (ns : List Int) (ts : List ByteArray) (hl : ts.any longS = true) : rightF 4 n s ns ts = false := by
  unfold rightF
  rw [if_neg (by decide), if_neg (by decide), if_neg (by decide), if_pos rfl, hl]
  simp
set_option maxRecDepth 100000 in
set_option maxHeartbeats 8000000 in
theorem refright_calls (tag kind n : Int) (s : ByteArray) (A4 : Option Addr) (c4 : Nat) (ns : List Int) (A5 : Option Addr) (c5 : Nat) (ts : List ByteArray) (w : World) (hr4 : Kd.C (Kd.int .i64) w A4 ns.length ns) (hc4 : ns.length ≤ c4) (hr5 : Kd.C Kd.string w A5 ts.length ts) (hc5 : ts.length ≤ c5) (hm : Mem9 ⟨tag, kind, n, s, ns, ts⟩) :
    Calls Try.prog 42 #[.agg #[.int .u8 tag, .int .u8 kind, .int .i64 n, .string s, .slice A4 ns.length c4, .slice A5 ts.length c5]] w fun e w' => e = .returned (.bool (rightF kind n s ns ts)) ∧ Below w.heap.size w w' := by
  have HD := Lib.hid (fun (W : World) (hb : Below w.heap.size w W) => And.intro (Kd.C_below hr4 hb) (Kd.C_below hr5 hb))
  have HC := Lib.hid (And.intro hc4 hc5)
  have HM := Lib.hid (show Mem9 (⟨tag, 0, n, s, ns, ts⟩ : Fl) from hm)
  obtain ⟨m4, hm4⟩ : ∃ m, m = ns.length := ⟨_, rfl⟩
  obtain ⟨m5, hm5⟩ : ∃ m, m = ts.length := ⟨_, rfl⟩
  have h95 : m5 < 9000000000000000000 := by rw [hm5]; exact hm.2
  rw [← hm4, ← hm5]
  have HN := Lib.hid (And.intro hm4 hm5)
  clear hr4 hc4 hr5 hc5 hm hm4 hm5
  have hb1 := below_alloc (Below.refl w.heap.size w) (.cells #[.int .u8 tag, .int .u8 kind, .int .i64 n, .string s, .slice A4 m4 c4, .slice A5 m5 c5] 30)
  have hb2 := below_alloc hb1 (.cells #[.int .u8 tag, .int .u8 kind, .int .i64 0, .string ⟨#[]⟩, .slice none 0 0, .slice none 0 0] 30)
  have e1 := heap_alloc_new w (.cells #[.int .u8 tag, .int .u8 kind, .int .i64 n, .string s, .slice A4 m4 c4, .slice A5 m5 c5] 30)
  have e2 := heap_alloc_new (w.alloc (.cells #[.int .u8 tag, .int .u8 kind, .int .i64 n, .string s, .slice A4 m4 c4, .slice A5 m5 c5] 30)) (.cells #[.int .u8 tag, .int .u8 kind, .int .i64 0, .string ⟨#[]⟩, .slice none 0 0, .slice none 0 0] 30)
  have e3 := blk_below e1 (below_alloc (Below.refl (w.alloc (.cells #[.int .u8 tag, .int .u8 kind, .int .i64 n, .string s, .slice A4 m4 c4, .slice A5 m5 c5] 30)).heap.size (w.alloc (.cells #[.int .u8 tag, .int .u8 kind, .int .i64 n, .string s, .slice A4 m4 c4, .slice A5 m5 c5] 30))) (.cells #[.int .u8 tag, .int .u8 kind, .int .i64 0, .string ⟨#[]⟩, .slice none 0 0, .slice none 0 0] 30))
  have es : (w.alloc (.cells #[.int .u8 tag, .int .u8 kind, .int .i64 n, .string s, .slice A4 m4 c4, .slice A5 m5 c5] 30)).heap.size = w.heap.size + 1 := by unfold World.alloc; simp
  rw [es] at e2
  have HB := Lib.hid hb2
  have HO := Lib.hid e2
  have HX := Lib.hid e3
  clear hb1 hb2 e1 e2 e3 es
  go_enter Try.func42, Try.ntmps42
  go_upto_region 2 with (fail)
  generalize World.alloc _ _ = W2 at HB HO HX ⊢
  obtain ⟨g, hg⟩ : ∃ g, g = w.heap.size := ⟨_, rfl⟩
  have hgh : g ≠ g + 1 := by omega
  rw [← hg] at HO HX ⊢
  obtain ⟨h, hh⟩ : ∃ h, h = g + 1 := ⟨_, rfl⟩
  rw [← hh] at HO hgh ⊢
  have hwg : w.heap.size ≤ h := by omega
  have HG := Lib.hid (And.intro hgh hwg)
  clear hg hh hgh hwg
  have g1 : W2.cell? ⟨g, 1, none⟩ = some (.int .u8 kind) := (blk_cell HX.out 1).trans rfl
  have g2 : W2.cell? ⟨g, 2, none⟩ = some (.int .i64 n) := (blk_cell HX.out 2).trans rfl
  have g3 : W2.cell? ⟨g, 3, none⟩ = some (.string s) := (blk_cell HX.out 3).trans rfl
  have g4 : W2.cell? ⟨g, 4, none⟩ = some (.slice A4 m4 c4) := (blk_cell HX.out 4).trans rfl
  have g5 : W2.cell? ⟨g, 5, none⟩ = some (.slice A5 m5 c5) := (blk_cell HX.out 5).trans rfl
  by_cases k1 : kind = 1
  · subst k1
    have HS := Lib.hid (fun (W : World) (hb : Below w.heap.size w W) => Same1_calls ⟨tag, 1, n, s, ns, ts⟩ ⟨tag, 1, n, ⟨#[]⟩, [], []⟩ A4 c4 m4 A5 c5 m5 none 0 0 none 0 0 HN.out.1 HN.out.2 rfl rfl W (HD.out W hb).1 HC.out.1 (HD.out W hb).2 HC.out.2 (Kd.C_nil _ _) (Nat.zero_le _) (Kd.C_nil _ _) (Nat.zero_le _) HM.out)
    have co : W2.cell? ⟨h, 2, none⟩ = some (.int .i64 0) := (blk_cell HO.out 2).trans rfl
    have zo : W2.frozen? ⟨h, 2, none⟩ = false := blk_frozen HO.out 2
    have HB3 := Lib.hid (below_set (j := 2) (v := .int .i64 n) HB.out HG.out.2)
    have HX3 := Lib.hid (blk_far (p := ⟨h, 2, none⟩) HX.out HG.out.1 (.int .i64 n))
    have HO3 := Lib.hid (blk_put (cs' := #[.int .u8 tag, .int .u8 1, .int .i64 n, .string ⟨#[]⟩, .slice none 0 0, .slice none 0 0]) HO.out 2 (.int .i64 n) rfl)
    clear HX HO HB
    go_upto_region 5 with (fail)
    clear co zo g1 g2 g3 g4 g5
    generalize World.setCell W2 _ _ = W3 at HB3 HX3 HO3 ⊢
    have g1 : W3.cell? ⟨g, 1, none⟩ = some (.int .u8 1) := (blk_cell HX3.out 1).trans rfl
    have g2 : W3.cell? ⟨g, 2, none⟩ = some (.int .i64 n) := (blk_cell HX3.out 2).trans rfl
    have g3 : W3.cell? ⟨g, 3, none⟩ = some (.string s) := (blk_cell HX3.out 3).trans rfl
    have g4 : W3.cell? ⟨g, 4, none⟩ = some (.slice A4 m4 c4) := (blk_cell HX3.out 4).trans rfl
    have g5 : W3.cell? ⟨g, 5, none⟩ = some (.slice A5 m5 c5) := (blk_cell HX3.out 5).trans rfl
    by_cases hn : n = 0
    · subst hn
      go_wp2
      go_ret
      exact ⟨by rw [rf1 tag]; rfl, HB3.out⟩
    · have hnb : (n != 0) = true := by simp [hn]
      have HNB := Lib.hid hnb
      go_wp2_with (first | ((with_reducible refine gate_ (.load 30 (.tmp 1)) rfl ?_); (refine gate_guard (by first | rfl | exact beq_iff_eq.2 (congrArg some HNB.out) | exact beq_iff_eq.2 (congrArg some (decide_eq_true hs)) | exact beq_iff_eq.2 (congrArg some (decide_eq_true hz))) ?_; dsimp only); refine wl_load 30 (.tmp 1) rfl rfl _ _ rfl (fg_ld HX3.out rfl) ?_) | ((with_reducible refine gate_ (.load 30 (.tmp 3)) rfl ?_); (refine gate_guard (by first | rfl | exact decide_eq_true hz | exact (beq_iff_eq.2 (decide_eq_true hz))) ?_; dsimp only); refine wl_load 30 (.tmp 3) rfl rfl _ _ rfl (fg_ld HO3.out rfl) ?_) | fail)
      refine (HS.out W3 HB3.out).mono ?_
      rintro e w4 ⟨rfl, hb⟩
      have HB4 := Lib.hid (below_then HB3.out HB3.out.size hb)
      clear hb HS
      obtain ⟨d, hd⟩ : ∃ d, d = decide ((⟨tag, 1, n, s, ns, ts⟩ : Fl) = ⟨tag, 1, n, ⟨#[]⟩, [], []⟩) := ⟨_, rfl⟩
      rw [← hd]
      have HE := Lib.hid hd
      clear hd
      go_wp2
      go_ret
      exact ⟨by rw [rf1 tag, ← HE.out, HNB.out]; rfl, HB4.out⟩
  by_cases k2 : kind = 2
  · subst k2
    have HS := Lib.hid (fun (W : World) (hb : Below w.heap.size w W) => Same1_calls ⟨tag, 2, n, s, ns, ts⟩ ⟨tag, 2, 0, s, [], []⟩ A4 c4 m4 A5 c5 m5 none 0 0 none 0 0 HN.out.1 HN.out.2 rfl rfl W (HD.out W hb).1 HC.out.1 (HD.out W hb).2 HC.out.2 (Kd.C_nil _ _) (Nat.zero_le _) (Kd.C_nil _ _) (Nat.zero_le _) HM.out)
    have co : W2.cell? ⟨h, 3, none⟩ = some (.string ⟨#[]⟩) := (blk_cell HO.out 3).trans rfl
    have zo : W2.frozen? ⟨h, 3, none⟩ = false := blk_frozen HO.out 3
    have HB3 := Lib.hid (below_set (j := 3) (v := .string s) HB.out HG.out.2)
    have HX3 := Lib.hid (blk_far (p := ⟨h, 3, none⟩) HX.out HG.out.1 (.string s))
    have HO3 := Lib.hid (blk_put (cs' := #[.int .u8 tag, .int .u8 2, .int .i64 0, .string s, .slice none 0 0, .slice none 0 0]) HO.out 3 (.string s) rfl)
    clear HX HO HB
    go_upto_region 8 with (fail)
    clear co zo g1 g2 g3 g4 g5
    generalize World.setCell W2 _ _ = W3 at HB3 HX3 HO3 ⊢
    have g1 : W3.cell? ⟨g, 1, none⟩ = some (.int .u8 2) := (blk_cell HX3.out 1).trans rfl
    have g2 : W3.cell? ⟨g, 2, none⟩ = some (.int .i64 n) := (blk_cell HX3.out 2).trans rfl
    have g3 : W3.cell? ⟨g, 3, none⟩ = some (.string s) := (blk_cell HX3.out 3).trans rfl
    have g4 : W3.cell? ⟨g, 4, none⟩ = some (.slice A4 m4 c4) := (blk_cell HX3.out 4).trans rfl
    have g5 : W3.cell? ⟨g, 5, none⟩ = some (.slice A5 m5 c5) := (blk_cell HX3.out 5).trans rfl
    by_cases hs : s.toList = []
    · have HNB : Hid ((!s.toList.isEmpty) = false) := Lib.hid (by rw [hs]; rfl)
      go_wp2
      go_ret
      exact ⟨by rw [rf2 tag, HNB.out]; rfl, HB3.out⟩
    · have HNB : Hid ((!s.toList.isEmpty) = true) := Lib.hid (by rw [Bool.not_eq_true', List.isEmpty_eq_false_iff]; exact hs)
      have hsb : s.toList.isEmpty = false := by rw [List.isEmpty_eq_false_iff]; exact hs
      by_cases hz : (s.size : Int) ≤ 65535
      · have HZ := Lib.hid (decide_eq_true hz)
        have hzb := decide_eq_true hz
        go_wp2_with (first | ((with_reducible refine gate_ (.load 30 (.tmp 1)) rfl ?_); (refine gate_guard (by first | rfl | exact beq_iff_eq.2 (congrArg some HNB.out) | exact beq_iff_eq.2 (congrArg some (decide_eq_true hs)) | exact beq_iff_eq.2 (congrArg some (decide_eq_true hz))) ?_; dsimp only); refine wl_load 30 (.tmp 1) rfl rfl _ _ rfl (fg_ld HX3.out rfl) ?_) | ((with_reducible refine gate_ (.load 30 (.tmp 3)) rfl ?_); (refine gate_guard (by first | rfl | exact decide_eq_true hz | exact (beq_iff_eq.2 (decide_eq_true hz))) ?_; dsimp only); refine wl_load 30 (.tmp 3) rfl rfl _ _ rfl (fg_ld HO3.out rfl) ?_) | fail)
        refine (HS.out W3 HB3.out).mono ?_
        rintro e w4 ⟨rfl, hb⟩
        have HB4 := Lib.hid (below_then HB3.out HB3.out.size hb)
        clear hb HS
        obtain ⟨d, hd⟩ : ∃ d, d = decide ((⟨tag, 2, n, s, ns, ts⟩ : Fl) = ⟨tag, 2, 0, s, [], []⟩) := ⟨_, rfl⟩
        rw [← hd]
        have HE := Lib.hid hd
        clear hd
        go_wp2
        go_ret
        exact ⟨by rw [rf2 tag, ← HE.out, HNB.out, HZ.out]; rfl, HB4.out⟩
      · have HZ := Lib.hid (decide_eq_false hz)
        go_wp2
        go_ret
        exact ⟨by rw [rf2 tag, HNB.out, HZ.out]; rfl, HB3.out⟩
  by_cases k3 : kind = 3
  · subst k3
    have HS := Lib.hid (fun (W : World) (hb : Below w.heap.size w W) => Same1_calls ⟨tag, 3, n, s, ns, ts⟩ ⟨tag, 3, 0, ⟨#[]⟩, ns, []⟩ A4 c4 m4 A5 c5 m5 A4 c4 m4 none 0 0 HN.out.1 HN.out.2 HN.out.1 rfl W (HD.out W hb).1 HC.out.1 (HD.out W hb).2 HC.out.2 (HD.out W hb).1 HC.out.1 (Kd.C_nil _ _) (Nat.zero_le _) HM.out)
    have co : W2.cell? ⟨h, 4, none⟩ = some (.slice none 0 0) := (blk_cell HO.out 4).trans rfl
    have zo : W2.frozen? ⟨h, 4, none⟩ = false := blk_frozen HO.out 4
    have HB3 := Lib.hid (below_set (j := 4) (v := .slice A4 m4 c4) HB.out HG.out.2)
    have HX3 := Lib.hid (blk_far (p := ⟨h, 4, none⟩) HX.out HG.out.1 (.slice A4 m4 c4))
    have HO3 := Lib.hid (blk_put (cs' := #[.int .u8 tag, .int .u8 3, .int .i64 0, .string ⟨#[]⟩, .slice A4 m4 c4, .slice none 0 0]) HO.out 4 (.slice A4 m4 c4) rfl)
    clear HX HO HB
    go_upto_region 11 with (fail)
    clear co zo g1 g2 g3 g4 g5
    generalize World.setCell W2 _ _ = W3 at HB3 HX3 HO3 ⊢
    have g1 : W3.cell? ⟨g, 1, none⟩ = some (.int .u8 3) := (blk_cell HX3.out 1).trans rfl
    have g2 : W3.cell? ⟨g, 2, none⟩ = some (.int .i64 n) := (blk_cell HX3.out 2).trans rfl
    have g3 : W3.cell? ⟨g, 3, none⟩ = some (.string s) := (blk_cell HX3.out 3).trans rfl
    have g4 : W3.cell? ⟨g, 4, none⟩ = some (.slice A4 m4 c4) := (blk_cell HX3.out 4).trans rfl
    have g5 : W3.cell? ⟨g, 5, none⟩ = some (.slice A5 m5 c5) := (blk_cell HX3.out 5).trans rfl
    by_cases hs : 1 ≤ m4
    · have HNB : Hid (decide (1 ≤ ns.length) = true) := Lib.hid (decide_eq_true (by rw [← HN.out.1]; exact hs))
      by_cases hz : (m4 : Int) ≤ 256
      · have HZ : Hid (decide ((ns.length : Int) ≤ 256) = true) := Lib.hid (decide_eq_true (by rw [← HN.out.1]; exact hz))
        have hzb := decide_eq_true hz
        go_wp2_with (first | ((with_reducible refine gate_ (.load 30 (.tmp 1)) rfl ?_); (refine gate_guard (by first | rfl | exact beq_iff_eq.2 (congrArg some HNB.out) | exact beq_iff_eq.2 (congrArg some (decide_eq_true hs)) | exact beq_iff_eq.2 (congrArg some (decide_eq_true hz))) ?_; dsimp only); refine wl_load 30 (.tmp 1) rfl rfl _ _ rfl (fg_ld HX3.out rfl) ?_) | ((with_reducible refine gate_ (.load 30 (.tmp 3)) rfl ?_); (refine gate_guard (by first | rfl | exact decide_eq_true hz | exact (beq_iff_eq.2 (decide_eq_true hz))) ?_; dsimp only); refine wl_load 30 (.tmp 3) rfl rfl _ _ rfl (fg_ld HO3.out rfl) ?_) | fail)
        refine (HS.out W3 HB3.out).mono ?_
        rintro e w4 ⟨rfl, hb⟩
        have HB4 := Lib.hid (below_then HB3.out HB3.out.size hb)
        clear hb HS
        obtain ⟨d, hd⟩ : ∃ d, d = decide ((⟨tag, 3, n, s, ns, ts⟩ : Fl) = ⟨tag, 3, 0, ⟨#[]⟩, ns, []⟩) := ⟨_, rfl⟩
        rw [← hd]
        have HE := Lib.hid hd
        clear hd
        go_wp2
        go_ret
        exact ⟨by rw [rf3 tag, ← HE.out, HNB.out, HZ.out]; rfl, HB4.out⟩
      · have HZ : Hid (decide ((ns.length : Int) ≤ 256) = false) := Lib.hid (decide_eq_false (by rw [← HN.out.1]; exact hz))
        go_wp2
        go_ret
        exact ⟨by rw [rf3 tag, HNB.out, HZ.out]; rfl, HB3.out⟩
    · have HNB : Hid (decide (1 ≤ ns.length) = false) := Lib.hid (decide_eq_false (by rw [← HN.out.1]; exact hs))
      go_wp2
      go_ret
      exact ⟨by rw [rf3 tag, HNB.out]; rfl, HB3.out⟩
  by_cases k4 : kind = 4
  · subst k4
    have HS := Lib.hid (fun (W : World) (hb : Below w.heap.size w W) => Same1_calls ⟨tag, 4, n, s, ns, ts⟩ ⟨tag, 4, 0, ⟨#[]⟩, [], ts⟩ A4 c4 m4 A5 c5 m5 none 0 0 A5 c5 m5 HN.out.1 HN.out.2 rfl HN.out.2 W (HD.out W hb).1 HC.out.1 (HD.out W hb).2 HC.out.2 (Kd.C_nil _ _) (Nat.zero_le _) (HD.out W hb).2 HC.out.2 HM.out)
    have co : W2.cell? ⟨h, 5, none⟩ = some (.slice none 0 0) := (blk_cell HO.out 5).trans rfl
    have zo : W2.frozen? ⟨h, 5, none⟩ = false := blk_frozen HO.out 5
    have HB3 := Lib.hid (below_set (j := 5) (v := .slice A5 m5 c5) HB.out HG.out.2)
    have HX3 := Lib.hid (blk_far (p := ⟨h, 5, none⟩) HX.out HG.out.1 (.slice A5 m5 c5))
    have HO3 := Lib.hid (blk_put (cs' := #[.int .u8 tag, .int .u8 4, .int .i64 0, .string ⟨#[]⟩, .slice none 0 0, .slice A5 m5 c5]) HO.out 5 (.slice A5 m5 c5) rfl)
    clear HX HO HB
    go_upto_region 14 with (fail)
    clear co zo g1 g2 g3 g4 g5
    generalize World.setCell W2 _ _ = W3 at HB3 HX3 HO3 ⊢
    have g1 : W3.cell? ⟨g, 1, none⟩ = some (.int .u8 4) := (blk_cell HX3.out 1).trans rfl
    have g2 : W3.cell? ⟨g, 2, none⟩ = some (.int .i64 n) := (blk_cell HX3.out 2).trans rfl
    have g3 : W3.cell? ⟨g, 3, none⟩ = some (.string s) := (blk_cell HX3.out 3).trans rfl
    have g4 : W3.cell? ⟨g, 4, none⟩ = some (.slice A4 m4 c4) := (blk_cell HX3.out 4).trans rfl
    have g5 : W3.cell? ⟨g, 5, none⟩ = some (.slice A5 m5 c5) := (blk_cell HX3.out 5).trans rfl
    have HST := Lib.hid (HD.out W3 HB3.out).2
    go_wp2_with fail
    go_loopw [4] (fun v4 wr => ∃ (j : Nat), j ≤ m5 ∧ v4 = .int .i64 j ∧ Hid (∀ i (hi : i < ts.length), i < j → longS ts[i] = false) ∧ W3 = wr) (fun v4 _ => m5 - (intOf v4).toNat)
    case atStart => exact ⟨0, Nat.zero_le _, rfl, Lib.hid (fun i _ h => absurd h (Nat.not_lt_zero _)), rfl⟩
    case round =>
      obtain ⟨j, hj, rfl, HL, rfl⟩ := hrel
      by_cases hlt : j < m5
      · have hlj : j < ts.length := by rw [← HN.out.2]; exact hlt
        obtain ⟨ad, e1, hx⟩ := Kd.at_string HST.out (j : Int) (by omega) (by omega)
        have hrd : rdOf ByteArray.empty ts (j : Int) = ts[j] := rdS ts j hlj
        rw [hrd, Int.toNat_natCast] at hx
        clear hrd
        cases e1
        obtain ⟨x, hxv⟩ : ∃ x, x = ts[j] := ⟨_, rfl⟩
        rw [← hxv] at hx
        have HXV := Lib.hid hxv
        have HLJ := Lib.hid hlj
        clear hxv
        by_cases hz : 65535 < x.size
        · have hz2 : (65535 : Int) < (x.size : Int) := by omega
          have HAny : Hid (ts.any longS = true) := Lib.hid (List.any_eq_true.2 ⟨x, by rw [HXV.out]; exact List.getElem_mem HLJ.out, decide_eq_true hz⟩)
          go_wp2
          go_ret
          exact ⟨by rw [rf4' _ _ _ _ HAny.out]; rfl, HB3.out⟩
        · have hz2 : ¬ (65535 : Int) < (x.size : Int) := by omega
          have HL1 : Hid (∀ i (hi : i < ts.length), i < j + 1 → longS ts[i] = false) := Lib.hid (fun i hi h => by
            rcases Nat.lt_succ_iff_lt_or_eq.1 h with h | h
            · exact HL.out i hi h
            · subst h
              rw [← HXV.out]
              exact decide_eq_false hz)
          go_wp2
          go_roundw
          case rel => exact ⟨j + 1, by omega, by go_num, HL1, by first | rfl | trivial⟩
          case measure => simp [intOf]; omega
      · have hjm : ¬ (j : Int) < (m5 : Int) := by omega
        have HAny : Hid (ts.any longS = false) := Lib.hid (by
          rw [List.any_eq_false]
          intro x hx
          obtain ⟨i, hi, rfl⟩ := List.mem_iff_getElem.1 hx
          rw [HL.out i hi (by have := HN.out.2; omega)]
          decide)
        clear HL
        by_cases hs : 1 ≤ m5
        · have HNB : Hid (decide (1 ≤ ts.length) = true) := Lib.hid (decide_eq_true (by rw [← HN.out.2]; exact hs))
          by_cases hz : (m5 : Int) ≤ 256
          · have HZ : Hid (decide ((ts.length : Int) ≤ 256) = true) := Lib.hid (decide_eq_true (by rw [← HN.out.2]; exact hz))
            have hzb := decide_eq_true hz
            go_wp2_with (first | ((with_reducible refine gate_ (.load 30 (.tmp 1)) rfl ?_); (refine gate_guard (by first | rfl | exact beq_iff_eq.2 (congrArg some HNB.out) | exact beq_iff_eq.2 (congrArg some (decide_eq_true hs)) | exact beq_iff_eq.2 (congrArg some (decide_eq_true hz))) ?_; dsimp only); refine wl_load 30 (.tmp 1) rfl rfl _ _ rfl (fg_ld HX3.out rfl) ?_) | ((with_reducible refine gate_ (.load 30 (.tmp 3)) rfl ?_); (refine gate_guard (by first | rfl | exact decide_eq_true hz | exact (beq_iff_eq.2 (decide_eq_true hz))) ?_; dsimp only); refine wl_load 30 (.tmp 3) rfl rfl _ _ rfl (fg_ld HO3.out rfl) ?_) | fail)
            refine (HS.out W3 HB3.out).mono ?_
            rintro e w4 ⟨rfl, hb⟩
            have HB4 := Lib.hid (below_then HB3.out HB3.out.size hb)
            clear hb HS
            obtain ⟨d, hd⟩ : ∃ d, d = decide ((⟨tag, 4, n, s, ns, ts⟩ : Fl) = ⟨tag, 4, 0, ⟨#[]⟩, [], ts⟩) := ⟨_, rfl⟩
            rw [← hd]
            have HE := Lib.hid hd
            clear hd
            go_wp2
            go_ret
            exact ⟨by rw [rf4 tag _ _ _ _ HAny.out, ← HE.out, HNB.out, HZ.out]; rfl, HB4.out⟩
          · have HZ : Hid (decide ((ts.length : Int) ≤ 256) = false) := Lib.hid (decide_eq_false (by rw [← HN.out.2]; exact hz))
            go_wp2
            go_ret
            exact ⟨by rw [rf4 tag _ _ _ _ HAny.out, HNB.out, HZ.out]; rfl, HB3.out⟩
        · have HNB : Hid (decide (1 ≤ ts.length) = false) := Lib.hid (decide_eq_false (by rw [← HN.out.2]; exact hs))
          go_wp2
          go_ret
          exact ⟨by rw [rf4 tag _ _ _ _ HAny.out, HNB.out]; rfl, HB3.out⟩
  go_wp2
  go_ret
  exact ⟨by unfold rightF; rw [if_neg k1, if_neg k2, if_neg k3, if_neg k4]; rfl, HB.out⟩
end Go.Proofs.Ytnhkbjihgepapaa.Fd
