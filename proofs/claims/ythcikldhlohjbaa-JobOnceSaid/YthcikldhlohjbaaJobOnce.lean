/- JobOnce of musterlaw18. (A part of the print PJ; parts written by gonce.py.) -/
import Derived.Test.YthcikldhlohjbaaJobAwake
import Derived.Test.YthcikldhlohjbaaJobSame
import Derived.Test.YthcikldhlohjbaaPlainJob
set_option linter.unusedVariables false
set_option linter.unusedSimpArgs false
namespace Go.Proofs.Ythcikldhlohjbaa.PJ
open Go.RowKit Go.Proofs.YthcikldhlohjbaaW.PrintWords Go.Proofs.YthcikldhlohjbaaW.PrintLast Go.Proofs.YthcikldhlohjbaaW.PrintMore Go.Proofs.Ythcikldhlohjbaa.Ones
/-- What holds of the job between the turns. -/
def InvJ (id : Int) (s : S38) (x : S43) (n : Nat) : Prop := rightJ x = true ∧ x.f0 = id ∧ x.f5 = 0 ∧ x.f3 = s ∧ u32ok x.f8 ∧ (n = 0 ∨ (n = 1 ∧ x.f4 ≠ 1))
/-- What the loop holds of the world. -/
def LJ (w0 : World) (b4 b7 : Nat) (S4 : Array Value) (x : S43) (A : Option Addr) (c : Nat) (W : World) : Prop :=
  W.heap[b4]? = some (.cells S4 38 (0, 0)) ∧ JBox W b7 x A c ∧ Kd.R k104 104 W w0.heap.size (fun k => k ≠ b7) (.slice A x.f3.f7.length c) x.f3.f7 ∧ Below w0.heap.size w0 W
theorem LJ.keep {w0 w1 w2 : World} {b4 b7 : Nat} {S4 : Array Value} {x : S43} {A : Option Addr} {c : Nat} (h : LJ w0 b4 b7 S4 x A c w1) (hb : Below w1.heap.size w1 w2) : LJ w0 b4 b7 S4 x A c w2 :=
  ⟨blk_below h.1 hb, h.2.1.keep hb, Kd.R_below h.2.2.1 hb, below_then h.2.2.2 h.2.2.2.size hb⟩
theorem LJ.jv {w0 w1 : World} {b4 b7 : Nat} {S4 : Array Value} {x : S43} {A : Option Addr} {c : Nat} (h : LJ w0 b4 b7 S4 x A c w1) : JV w1 x A c := ⟨(Kd.R_reads' h.2.2.1).2.1, (Kd.R_reads' h.2.2.1).2.2⟩
theorem turn_zero {x : S43} {t : S72} (hz : (turnJ x t).2 ≠ 0) : (turnJ x t).1 = z43 := by
  unfold turnJ at hz ⊢
  by_cases h : t.f1 = 0
  · rw [if_pos h] at hz ⊢
    exact begin_zero hz
  · rw [if_neg h] at hz ⊢
    exact finish_zero hz
theorem turn_facts {id : Int} {s : S38} {x : S43} {n : Nat} {t : S72} (h : InvJ id s x n) (ht : u32ok t.f0) (hz : (turnJ x t).2 = 0) :
    overS x.f4 = false ∧ rightJ (turnJ x t).1 = true ∧ (turnJ x t).1.f0 = id ∧ (turnJ x t).1.f5 = 0 ∧ (turnJ x t).1.f3 = s ∧ u32ok (turnJ x t).1.f8 ∧
    (t.f1 = 0 → n = 0 ∧ (turnJ x t).1.f4 = 2 ∧ (turnJ x t).1.f8 = t.f0 ∧ ones t.f0 = s.f4 ∧ (turnJ x t).1.f6 = t.f3) ∧
    (t.f1 ≠ 0 → (turnJ x t).1.f8 = x.f8 ∧ (turnJ x t).1.f6 = x.f6 ∧ (turnJ x t).1.f7 = t.f3 ∧ overS (turnJ x t).1.f4 = true) := by
  obtain ⟨i1, i2, i3, i4, i5, i6⟩ := h
  unfold turnJ at hz ⊢
  by_cases h0 : t.f1 = 0
  · rw [if_pos h0] at hz ⊢
    obtain ⟨q1, q2, q3, q4, q5, q6⟩ := begin_ok hz
    rw [q1]
    exact ⟨decide_eq_false (by omega), begin_right q2 q3 q4 q5 q6, i2, i3, i4, ht, fun _ => ⟨by omega, rfl, rfl, by rw [q3, i4], rfl⟩, fun g => absurd h0 g⟩
  · rw [if_neg h0] at hz ⊢
    obtain ⟨q1, q2, q3, q4, q5, q6⟩ := finish_ok hz
    rw [q1]
    exact ⟨decide_eq_false (by omega), finish_right q2 q3 q4 q5 (by decide), i2, i3, i4, i5, fun g => absurd g h0, fun _ => ⟨rfl, rfl, rfl, next_over q5⟩⟩
/-- What the drawn region of a begun turn holds. -/
def OR (w0 : World) (b4 b7 b10 b11 : Nat) (u : Nat → Value) (a1 a2 a3 a4 : Value) (S4 T : Array Value) (x : S43) (A1 : Option Addr) (c1 : Nat) (y : S43) (A3 : Option Addr) (c3 : Nat) (w' : World) : Prop :=
  w'.cell? ⟨b11, 0, none⟩ = some (u 0) ∧ w'.cell? ⟨b11, 1, none⟩ = some (u 1) ∧ w'.cell? ⟨b11, 2, none⟩ = some (u 2) ∧ w'.cell? ⟨b11, 3, none⟩ = some (u 3) ∧ w'.cell? ⟨b11, 4, none⟩ = some (u 4) ∧ w'.cell? ⟨b11, 5, none⟩ = some (u 5) ∧ w'.cell? ⟨b11, 6, none⟩ = some (u 6) ∧ w'.cell? ⟨b11, 7, none⟩ = some (u 7) ∧ w'.cell? ⟨b11, 8, none⟩ = some (u 8) ∧ w'.cell? ⟨b11, 9, none⟩ = some (u 9) ∧ w'.cell? ⟨b11, 10, none⟩ = some (u 10) ∧ w'.cell? ⟨b11, 11, none⟩ = some (u 11) ∧ w'.cell? ⟨b11, 12, none⟩ = some (u 12) ∧ w'.cell? ⟨b11, 13, none⟩ = some (u 13) ∧ w'.cell? ⟨b11, 14, none⟩ = some (u 14) ∧ w'.cell? ⟨b11, 15, none⟩ = some (u 15) ∧ w'.cell? ⟨b11, 16, none⟩ = some (u 16) ∧ w'.cell? ⟨b10, 0, none⟩ = some a1 ∧ w'.cell? ⟨b10, 3, none⟩ = some a2 ∧ w'.cell? ⟨b4, 4, none⟩ = some a3 ∧ w'.cell? ⟨b4, 6, none⟩ = some a4 ∧ JBox w' b11 y A3 c3 ∧ Kd.R k104 104 w' w0.heap.size (fun k => k ≠ b7) (.slice A3 y.f3.f7.length c3) y.f3.f7 ∧ LJ w0 b4 b7 S4 x A1 c1 w' ∧ w'.heap[b10]? = some (.cells T 72 (0, 0))
theorem OR.keep {w0 w1 w2 : World} {b4 b7 b10 b11 : Nat} {u : Nat → Value} {a1 a2 a3 a4 : Value} {S4 T : Array Value} {x : S43} {A1 : Option Addr} {c1 : Nat} {y : S43} {A3 : Option Addr} {c3 : Nat} (h : OR w0 b4 b7 b10 b11 u a1 a2 a3 a4 S4 T x A1 c1 y A3 c3 w1) (hb : Below w1.heap.size w1 w2) : OR w0 b4 b7 b10 b11 u a1 a2 a3 a4 S4 T x A1 c1 y A3 c3 w2 := by
  obtain ⟨h0, h1, h2, h3, h4, h5, h6, h7, h8, h9, h10, h11, h12, h13, h14, h15, h16, h17, h18, h19, h20, h21, h22, h23, h24⟩ := h
  have key : ∀ {a : Addr} {v : Value}, w1.cell? a = some v → w2.cell? a = some v := fun h => (hb.cell (World.block_lt_of_cell? w1 _ h)).trans h
  exact ⟨key h0, key h1, key h2, key h3, key h4, key h5, key h6, key h7, key h8, key h9, key h10, key h11, key h12, key h13, key h14, key h15, key h16, key h17, key h18, key h19, key h20, h21.keep hb, Kd.R_below h22 hb, h23.keep hb, blk_below h24 hb⟩
theorem OR.jv {w0 w1 : World} {b4 b7 b10 b11 : Nat} {u : Nat → Value} {a1 a2 a3 a4 : Value} {S4 T : Array Value} {x : S43} {A1 : Option Addr} {c1 : Nat} {y : S43} {A3 : Option Addr} {c3 : Nat} (h : OR w0 b4 b7 b10 b11 u a1 a2 a3 a4 S4 T x A1 c1 y A3 c3 w1) : JV w1 y A3 c3 := by
  obtain ⟨h0, h1, h2, h3, h4, h5, h6, h7, h8, h9, h10, h11, h12, h13, h14, h15, h16, h17, h18, h19, h20, h21, h22, h23, h24⟩ := h
  exact ⟨(Kd.R_reads' h22).2.1, (Kd.R_reads' h22).2.2⟩
set_option maxRecDepth 100000 in
set_option maxHeartbeats 8000000 in
theorem jobOnce_calls (id : Int) (s : S38) (A : Option Addr) (c : Nat) (l : List S72) (AL : Option Addr) (cl : Nat) (w : World) (hs : s.f7.length < 8796093022208) (hr : Kd.C k104 w A s.f7.length s.f7) (hc : s.f7.length ≤ c)
    (hl : Kd.C k72 w AL l.length l) (hcl : l.length ≤ cl) (hwf : ∀ t ∈ l, u32ok t.f0) :
    Calls Try.prog 9 #[.int .i64 id, .agg #[.string s.f0, .string s.f1, .string s.f2, .string s.f3, .int .i64 s.f4, .int .i64 s.f5, .int .i64 s.f6, .slice A s.f7.length c], .slice AL l.length cl] w fun e w' => e = .returned (.bool true) ∧ Below w.heap.size w w' := by
  have hln : l.length ≤ 9223372036854775807 := hl.2.1
  have HS := Lib.hid (And.intro hs (And.intro hr hc))
  have HL := Lib.hid (And.intro hl (And.intro hcl hwf))
  have HM := Lib.hid (fun W (hW : Below w.heap.size w W) => make_callsR id s 0 hs A c W hc (Kd.C_below hr hW))
  clear hs hr hc hl hcl hwf
  go_enter Try.func9, Try.ntmps9
  go_upto_region 1 with (fail)
  generalize hWD : w.alloc (.cells _ 38) = WD
  obtain ⟨b4, hb4⟩ : ∃ b, b = w.heap.size := ⟨_, rfl⟩
  rw [← hb4]
  have S4 : Hid (WD.heap[b4]? = some (.cells (specC s A c) 38 (0, 0))) := Lib.hid (by rw [← hWD, hb4]; exact blk_new _ _)
  have HB : Hid (Below w.heap.size w WD) := Lib.hid (by rw [← hWD]; exact below_alloc (Below.refl _ _) _)
  have hg4 : w.heap.size ≤ b4 := by omega
  have G4 := Lib.hid hg4
  clear hWD hb4 hg4
  have hld := spec_load S4.out
  go_wp2_with ((with_reducible refine gate_ (.load 38 (.tmp 4)) rfl ?_); refine wl_load 38 (.tmp 4) rfl rfl _ _ rfl hld ?_)
  refine (HM.out WD HB.out).mono ?_
  rintro e w1 ⟨A0, c0, he, hR0, hb⟩
  clear hld
  obtain ⟨x0, hx0⟩ : ∃ x, x = makeJ id s 0 := ⟨_, rfl⟩
  rw [← hx0] at he
  replace hR0 : Kd.R k104 104 w1 WD.heap.size (fun _ => True) (.slice A0 x0.f3.f7.length c0) x0.f3.f7 := by rw [hx0]; exact hR0
  replace he : e = .returned (.agg #[.int .i64 x0.f0, .int .i64 x0.f1, .int .i64 x0.f2, .string x0.f3.f0, .string x0.f3.f1, .string x0.f3.f2, .string x0.f3.f3, .int .i64 x0.f3.f4, .int .i64 x0.f3.f5, .int .i64 x0.f3.f6, .slice A0 x0.f3.f7.length c0, .int .u8 x0.f4, .int .i64 x0.f5, .int .i64 x0.f6, .int .i64 x0.f7, .int .u32 x0.f8, .int .i64 x0.f9]) := he
  subst he
  replace hx0 := Lib.hid hx0
  go_upto_region 2 with (fail)
  generalize hWD : w1.alloc (.cells _ 43) = W1
  obtain ⟨b7, hb7⟩ : ∃ b, b = w1.heap.size := ⟨_, rfl⟩
  rw [← hb7]
  have hk : Below w1.heap.size w1 W1 := by rw [← hWD]; exact below_alloc (Below.refl _ _) _
  have hlt4 : b4 < w1.heap.size := blk_lt (blk_below S4.out hb)
  have hsz := (below_then HB.out HB.out.size hb).size
  have NE : Hid (b7 ≠ b4 ∧ w.heap.size ≤ b7) := Lib.hid (by omega)
  have LS : Hid (LJ w b4 b7 (specC s A c) x0 A0 c0 W1) := Lib.hid ⟨blk_below (blk_below S4.out hb) hk, by rw [← hWD, hb7]; exact blk_new _ _,
    Kd.R_mono (Kd.R_lower (Kd.R_below (Kd.R_elderB hR0 b7 (by omega)) hk) HB.out.size) (fun _ h => h.2), below_then (below_then HB.out HB.out.size hb) (by omega) hk⟩
  clear hWD hb7 hk hlt4 hsz hb hR0 S4 HB HM
  have hld := LS.out.2.1.load
  go_wp2_with ((with_reducible refine gate_ (.load 43 (.tmp 7)) rfl ?_); refine wl_load 43 (.tmp 7) rfl rfl _ _ rfl hld ?_)
  refine (right_calls x0 A0 c0 _ (by rw [hx0.out]; exact ⟨Int.le_refl _, show (0 : Int) < 4294967296 by decide⟩) LS.out.jv.2 LS.out.jv.1).mono ?_
  rintro e w2 ⟨rfl, hb⟩
  replace LS := Lib.hid (LS.out.keep hb)
  clear hb hld
  cases hrt : rightJ x0 with
  | false =>
    go_wp2_with fail
    refine (awake18_calls _).mono ?_
    rintro e w3 ⟨rfl, hb⟩
    replace LS := Lib.hid (LS.out.keep hb)
    clear hb
    go_wp2
    go_ret
    exact ⟨rfl, LS.out.2.2.2⟩
  | true =>
    have HI : Hid (InvJ id s x0 0) := Lib.hid ⟨hrt, by rw [hx0.out]; rfl, by rw [hx0.out]; rfl, by rw [hx0.out]; rfl, by rw [hx0.out]; exact ⟨Int.le_refl _, show (0 : Int) < 4294967296 by decide⟩, Or.inl rfl⟩
    clear hrt hx0
    go_wp2
    go_loopw [8, 9] (fun v8 v9 wr => ∃ (n j : Nat) (x : S43) (A1 : Option Addr) (c1 : Nat), j ≤ l.length ∧ j ≤ 60 ∧ n ≤ 1 ∧ v8 = .int .i64 n ∧ v9 = .int .i64 j ∧ Hid (InvJ id s x n) ∧ Hid (LJ w b4 b7 (specC s A c) x A1 c1 wr)) (fun _ v9 _ => l.length - (intOf v9).toNat)
    case atStart => exact ⟨0, 0, x0, A0, c0, Nat.zero_le _, Nat.zero_le _, Nat.zero_le _, rfl, rfl, HI, LS⟩
    case round =>
      clear HI LS
      obtain ⟨n, j, x, A1, c1, hj, hj60, hn1, rfl, rfl, HI, LS⟩ := hrel
      by_cases hlt : j < l.length ∧ j < 60
      · as_aux_lemma =>
        obtain ⟨hlt, hlt60⟩ := hlt
        have p1 : 0 ≤ (j : Int) := by omega
        have q1 : (j : Int) < (l.length : Int) := by omega
        have q60 : (j : Int) < 60 := by omega
        obtain ⟨ad, e1, hx0, hx1, hx2, hx3⟩ := at_T72 HL.out.1 (j : Int) p1 q1
        cases e1
        have ht0 : u32ok (rd_T72 l (j : Int)).f0 := by
          have : rd_T72 l (j : Int) = l[j] := by unfold rd_T72; simp [List.getD, hlt]
          rw [this]
          exact HL.out.2.2 _ (List.getElem_mem hlt)
        generalize rd_T72 l (j : Int) = t at hx0 hx1 hx2 hx3 ht0
        have HT := Lib.hid ht0
        replace hx0 := (LS.out.2.2.2.cell (World.block_lt_of_cell? w _ hx0)).trans hx0
        replace hx1 := (LS.out.2.2.2.cell (World.block_lt_of_cell? w _ hx1)).trans hx1
        replace hx2 := (LS.out.2.2.2.cell (World.block_lt_of_cell? w _ hx2)).trans hx2
        replace hx3 := (LS.out.2.2.2.cell (World.block_lt_of_cell? w _ hx3)).trans hx3
        rw [Int.toNat_natCast] at hx0 hx1 hx2 hx3
        have HX : Hid (JOk x) := Lib.hid ⟨HI.out.2.2.2.2.1, by rw [HI.out.2.2.2.1]; exact HS.out.1⟩
        clear ht0
        go_upto_region 9 with (fail)
        generalize hWD : wr.alloc (.cells _ 72) = W3
        obtain ⟨b10, hb10⟩ : ∃ b, b = wr.heap.size := ⟨_, rfl⟩
        rw [← hb10]
        have T10 : Hid (W3.heap[b10]? = some (.cells #[.int .u32 t.f0, .int .u8 t.f1, .int .i64 t.f2, .int .i64 t.f3] 72 (0, 0))) := Lib.hid (by rw [← hWD, hb10]; exact blk_new _ _)
        have hk : Below wr.heap.size wr W3 := by rw [← hWD]; exact below_alloc (Below.refl _ _) _
        replace LS := Lib.hid (LS.out.keep hk)
        clear hWD hb10 hk hx0 hx1 hx2 hx3
        have g1 : W3.cell? ⟨b10, 1, none⟩ = some (.int .u8 t.f1) := (blk_cell T10.out 1).trans rfl
        have g2 : W3.cell? ⟨b10, 2, none⟩ = some (.int .i64 t.f2) := (blk_cell T10.out 2).trans rfl
        have g3 : W3.cell? ⟨b10, 3, none⟩ = some (.int .i64 t.f3) := (blk_cell T10.out 3).trans rfl
        have hld := LS.out.2.1.load
        go_wp2_with ((with_reducible refine gate_ (.load 43 (.tmp 7)) rfl ?_); refine wl_load 43 (.tmp 7) rfl rfl _ _ rfl hld ?_)
        refine (finish_callsR t.f1 t.f2 t.f3 HX.out A1 c1 _ LS.out.jv).mono ?_
        rintro e w4 ⟨A2, c2, he, _, hR2, hb⟩
        obtain ⟨⟨N, eN⟩, hp⟩ : ∃ p, p = finishJ x t.f1 t.f2 t.f3 := ⟨_, rfl⟩
        rw [← hp] at he hR2
        replace he : e = .returned (.tuple #[.agg #[.int .i64 N.f0, .int .i64 N.f1, .int .i64 N.f2, .string N.f3.f0, .string N.f3.f1, .string N.f3.f2, .string N.f3.f3, .int .i64 N.f3.f4, .int .i64 N.f3.f5, .int .i64 N.f3.f6, .slice A2 N.f3.f7.length c2, .int .u8 N.f4, .int .i64 N.f5, .int .i64 N.f6, .int .i64 N.f7, .int .u32 N.f8, .int .i64 N.f9], .int .i64 eN]) := he
        subst he
        replace hp := Lib.hid hp
        have RN0 := Kd.R_newB hR2 LS.out.2.1
        have hW3 := LS.out.2.2.2.size
        replace LS := Lib.hid (LS.out.keep hb)
        have hszW := LS.out.2.2.2.size
        replace T10 := Lib.hid (blk_below T10.out hb)
        have RN1 := Kd.R_lower RN0 hW3
        clear hld g1 g2 g3 hR2 RN0
        go_upto_region 10 with (fail)
        generalize hWD : w4.alloc (.cells _ 43) = W4
        obtain ⟨b11, hb11⟩ : ∃ b, b = w4.heap.size := ⟨_, rfl⟩
        rw [← hb11]
        have hk : Below w4.heap.size w4 W4 := by rw [← hWD]; exact below_alloc (Below.refl _ _) _
        have hl4 := blk_lt LS.out.1
        have hl7 := blk_lt LS.out.2.1
        have hl10 := blk_lt T10.out
        have N11 : Hid (b4 < b11 ∧ b7 < b11 ∧ b10 < b11 ∧ w.heap.size ≤ b11) := Lib.hid ⟨by omega, by omega, by omega, by omega⟩
        have NB : Hid (JBox W4 b11 N A2 c2) := Lib.hid (by rw [← hWD, hb11]; exact blk_new _ _)
        have RN : Hid (Kd.R k104 104 W4 w.heap.size (fun k => k ≠ b7) (.slice A2 N.f3.f7.length c2) N.f3.f7) := Lib.hid (Kd.R_mono (Kd.R_below RN1 hk) (fun _ h => h.2))
        have RX : Hid (Kd.R k104 104 W4 w.heap.size (fun k => k ≠ b7 ∧ k ≠ b11) (.slice A1 x.f3.f7.length c1) x.f3.f7) := Lib.hid (Kd.R_below (Kd.R_elderB LS.out.2.2.1 b11 (by omega)) hk)
        replace LS := Lib.hid (LS.out.keep hk)
        replace T10 := Lib.hid (blk_below T10.out hk)
        clear hWD hb11 hk hl4 hl7 hl10 RN1 hb hszW hW3
        have g1 : W4.cell? ⟨b10, 1, none⟩ = some (.int .u8 t.f1) := (blk_cell T10.out 1).trans rfl
        go_upto_if 47 with (fail)
        clear g1
        go_cut [12] (fun v12 wc => v12 = .int .i64 (turnJ x t).2 ∧ ∃ A3 c3, Hid (JBox wc b11 (turnJ x t).1 A3 c3) ∧ Hid (Kd.R k104 104 wc w.heap.size (fun k => k ≠ b7) (.slice A3 (turnJ x t).1.f3.f7.length c3) (turnJ x t).1.f3.f7) ∧ Hid (LJ w b4 b7 (specC s A c) x A1 c1 wc) ∧ Hid (wc.heap[b10]? = some (.cells #[.int .u32 t.f0, .int .u8 t.f1, .int .i64 t.f2, .int .i64 t.f3] 72 (0, 0))))
        case first =>
          as_aux_lemma =>
          by_cases h0 : t.f1 = 0
          · have h0b : (t.f1 == 0) = true := beq_iff_eq.2 h0
            have hT : Hid (turnJ x t = beginJ x t.f0 t.f3) := Lib.hid (by unfold turnJ; rw [if_pos h0])
            clear h0
            have g0 : W4.cell? ⟨b10, 0, none⟩ = some (.int .u32 t.f0) := (blk_cell T10.out 0).trans rfl
            have g3 : W4.cell? ⟨b10, 3, none⟩ = some (.int .i64 t.f3) := (blk_cell T10.out 3).trans rfl
            have hld := LS.out.2.1.load
            go_wp2_with ((with_reducible refine gate_ (.load 43 (.tmp 7)) rfl ?_); refine wl_load 43 (.tmp 7) rfl rfl _ _ rfl hld ?_)
            refine (begin_callsR t.f3 HX.out HT.out A1 c1 _ LS.out.jv).mono ?_
            rintro e w5 ⟨A3, c3, he, _, hR3, hb⟩
            rw [← hT.out] at he hR3
            have RB := Lib.hid (Kd.R_newB (Kd.R_newB hR3 LS.out.2.1) NB.out)
            have HW4 := Lib.hid LS.out.2.2.2.size
            replace LS := Lib.hid (LS.out.keep hb)
            replace NB := Lib.hid (NB.out.keep hb)
            replace RX := Lib.hid (Kd.R_below RX.out hb)
            replace T10 := Lib.hid (blk_below T10.out hb)
            obtain ⟨⟨y, ey⟩, hy⟩ : ∃ p, p = turnJ x t := ⟨_, rfl⟩
            rw [← hy] at he RB
            replace hy := Lib.hid hy
            replace he : e = .returned (.tuple #[.agg #[.int .i64 y.f0, .int .i64 y.f1, .int .i64 y.f2, .string y.f3.f0, .string y.f3.f1, .string y.f3.f2, .string y.f3.f3, .int .i64 y.f3.f4, .int .i64 y.f3.f5, .int .i64 y.f3.f6, .slice A3 y.f3.f7.length c3, .int .u8 y.f4, .int .i64 y.f5, .int .i64 y.f6, .int .i64 y.f7, .int .u32 y.f8, .int .i64 y.f9], .int .i64 ey]) := he
            subst he
            clear hb hR3 g0 g3 hld hT RN
            have nb0 := NB.out
            go_wp2_with ((with_reducible refine gate_ (.store 43 (.tmp 11) (.tmp 55)) rfl ?_); refine st_job 43 (.tmp 11) (.tmp 55) (cells := jobC y A3 c3) rfl rfl rfl rfl nb0 job_info rfl (jobC_one _ _ _) ?_; intro W6 h5 h6 h7)
            go_meet
            case rel => exact ⟨by rw [← hy.out], A3, c3, by rw [← hy.out]; exact Lib.hid h5, by rw [← hy.out]; exact Lib.hid (Kd.R_mono (Kd.R_lower (Kd.R_step RB.out (fun k hk _ => h6 k hk.2)) HW4.out) (fun _ h => h.1.2)), Lib.hid ⟨(h6 b4 (by have := N11.out; omega)).trans LS.out.1, (h6 b7 (by have := N11.out; omega)).trans LS.out.2.1, Kd.R_mono (Kd.R_step RX.out (fun k hk _ => h6 k hk.2)) (fun _ h => h.1), h7 _ _ N11.out.2.2.2 LS.out.2.2.2⟩, Lib.hid ((h6 b10 (by have := N11.out; omega)).trans T10.out)⟩
          · have h0b : (t.f1 == 0) = false := beq_eq_false_iff_ne.2 h0
            have hT : turnJ x t = finishJ x t.f1 t.f2 t.f3 := by unfold turnJ; rw [if_neg h0]
            rw [← hp.out] at hT
            replace hT := Lib.hid hT
            clear h0
            go_wp2
            go_meet
            case rel => exact ⟨by rw [hT.out], A2, c2, by rw [hT.out]; exact NB, by rw [hT.out]; exact RN, LS, T10⟩
        case rest =>
          as_aux_lemma =>
          clear NB RN RX LS T10 hp
          obtain ⟨rfl, A3, c3, NB, RN, LS, T10⟩ := hcut
          by_cases hz : (turnJ x t).2 = 0
          · as_aux_lemma =>
            obtain ⟨f1, f2, f3, f4, f5, f6, f7, f8⟩ := turn_facts HI.out HT.out hz
            rw [hz]
            obtain ⟨y, hy⟩ : ∃ y, y = (turnJ x t).1 := ⟨_, rfl⟩
            rw [← hy] at NB RN f2 f3 f4 f5 f6 f7 f8
            clear hz hy
            obtain ⟨y1, y2, y4, y6, y7, y8, y9, hyy⟩ : ∃ y1 y2 y4 y6 y7 y8 y9, y = (⟨id, y1, y2, s, y4, 0, y6, y7, y8, y9⟩ : S43) := ⟨y.f1, y.f2, y.f4, y.f6, y.f7, y.f8, y.f9, by cases y; simp only at f3 f4 f5; rw [f3, f4, f5]⟩
            subst hyy
            clear f3 f4 f5
            replace f7 : t.f1 = 0 → n = 0 ∧ y4 = 2 ∧ y8 = t.f0 ∧ ones t.f0 = s.f4 ∧ y6 = t.f3 := f7
            replace f8 : t.f1 ≠ 0 → y8 = x.f8 ∧ y6 = x.f6 ∧ y7 = t.f3 ∧ overS y4 = true := f8
            replace f6 : u32ok y8 := f6
            have F1 := Lib.hid f1
            have F2 := Lib.hid f2
            have F6 := Lib.hid f6
            have F7 := Lib.hid f7
            have F8 := Lib.hid f8
            clear f1 f2 f6 f7 f8
            have g11 : wc.cell? ⟨b7, 11, none⟩ = some (.int .u8 x.f4) := LS.out.2.1.cell 11 rfl
            go_wp2_with fail
            refine (over_calls x.f4 _).mono ?_
            rintro e w5 ⟨he, hb⟩
            rw [F1.out] at he
            subst he
            replace LS := Lib.hid (LS.out.keep hb)
            replace NB := Lib.hid (NB.out.keep hb)
            replace RN := Lib.hid (Kd.R_below RN.out hb)
            replace T10 := Lib.hid (blk_below T10.out hb)
            clear hb g11
            have hld := NB.out.load
            go_wp2_with ((with_reducible refine gate_ (.load 43 (.tmp 11)) rfl ?_); refine wl_loadG 43 (.tmp 11) rfl (by rfl) _ _ rfl hld ?_)
            refine (right_calls (⟨id, y1, y2, s, y4, 0, y6, y7, y8, y9⟩ : S43) A3 c3 _ F6.out (Kd.R_reads' RN.out).2.2 (Kd.R_reads' RN.out).2.1).mono ?_
            rintro e w6 ⟨he, hb⟩
            rw [F2.out] at he
            subst he
            replace LS := Lib.hid (LS.out.keep hb)
            replace NB := Lib.hid (NB.out.keep hb)
            replace RN := Lib.hid (Kd.R_below RN.out hb)
            replace T10 := Lib.hid (blk_below T10.out hb)
            clear hb hld
            have c0 : w6.cell? ⟨b11, 0, none⟩ = some (.int .i64 id) := NB.out.cell 0 rfl
            have c12 : w6.cell? ⟨b11, 12, none⟩ = some (.int .i64 0) := NB.out.cell 12 rfl
            have c3' : w6.cell? ⟨b11, 3, none⟩ = some (.string s.f0) := NB.out.cell 3 rfl
            have c4' : w6.cell? ⟨b11, 4, none⟩ = some (.string s.f1) := NB.out.cell 4 rfl
            have c5' : w6.cell? ⟨b11, 5, none⟩ = some (.string s.f2) := NB.out.cell 5 rfl
            have c6' : w6.cell? ⟨b11, 6, none⟩ = some (.string s.f3) := NB.out.cell 6 rfl
            have c7' : w6.cell? ⟨b11, 7, none⟩ = some (.int .i64 s.f4) := NB.out.cell 7 rfl
            have c8' : w6.cell? ⟨b11, 8, none⟩ = some (.int .i64 s.f5) := NB.out.cell 8 rfl
            have c9' : w6.cell? ⟨b11, 9, none⟩ = some (.int .i64 s.f6) := NB.out.cell 9 rfl
            have c10' : w6.cell? ⟨b11, 10, none⟩ = some (.slice A3 s.f7.length c3) := NB.out.cell 10 rfl
            have hld4 := spec_load LS.out.1
            have hid1 : (id != id) = false := bne_self_eq_false id
            go_wp2_with ((with_reducible refine gate_ (.load 38 (.tmp 4)) rfl ?_); refine wl_loadG 38 (.tmp 4) rfl (by rfl) _ _ rfl hld4 ?_)
            refine (sameSpec_calls s HS.out.1 A3 A c3 c _ (Kd.R_reads' RN.out).2.2 (Kd.R_reads' RN.out).2.1 (Kd.C_below HS.out.2.1 LS.out.2.2.2) HS.out.2.2).mono ?_
            rintro e w7 ⟨rfl, hb⟩
            replace LS := Lib.hid (LS.out.keep hb)
            replace NB := Lib.hid (NB.out.keep hb)
            replace RN := Lib.hid (Kd.R_below RN.out hb)
            replace T10 := Lib.hid (blk_below T10.out hb)
            clear hb c0 c12 c3' c4' c5' c6' c7' c8' c9' c10' hld4 hid1
            have g1 : w7.cell? ⟨b10, 1, none⟩ = some (.int .u8 t.f1) := (blk_cell T10.out 1).trans rfl
            have g3 : w7.cell? ⟨b10, 3, none⟩ = some (.int .i64 t.f3) := (blk_cell T10.out 3).trans rfl
            by_cases h0 : t.f1 = 0
            · as_aux_lemma =>
              have h0b : (t.f1 == 0) = true := beq_iff_eq.2 h0
              obtain ⟨rfl, rfl, rfl, q4, rfl⟩ := F7.out h0
              have HN1 : Hid (InvJ id s (⟨id, y1, y2, s, 2, 0, t.f3, y7, t.f0, y9⟩ : S43) 1) := Lib.hid ⟨F2.out, rfl, rfl, rfl, F6.out, Or.inr ⟨rfl, show (2 : Int) ≠ 1 by decide⟩⟩
              obtain ⟨T, hTT⟩ : ∃ T : Array Value, T = #[.int .u32 t.f0, .int .u8 t.f1, .int .i64 t.f2, .int .i64 t.f3] := ⟨_, rfl⟩
              have hS : w7.cell? ⟨b11, 0, none⟩ = some (.int .i64 id) ∧ w7.cell? ⟨b11, 1, none⟩ = some (.int .i64 y1) ∧ w7.cell? ⟨b11, 2, none⟩ = some (.int .i64 y2) ∧ w7.cell? ⟨b11, 3, none⟩ = some (.string s.f0) ∧ w7.cell? ⟨b11, 4, none⟩ = some (.string s.f1) ∧ w7.cell? ⟨b11, 5, none⟩ = some (.string s.f2) ∧ w7.cell? ⟨b11, 6, none⟩ = some (.string s.f3) ∧ w7.cell? ⟨b11, 7, none⟩ = some (.int .i64 s.f4) ∧ w7.cell? ⟨b11, 8, none⟩ = some (.int .i64 s.f5) ∧ w7.cell? ⟨b11, 9, none⟩ = some (.int .i64 s.f6) ∧ w7.cell? ⟨b11, 10, none⟩ = some (.slice A3 s.f7.length c3) ∧ w7.cell? ⟨b11, 11, none⟩ = some (.int .u8 2) ∧ w7.cell? ⟨b11, 12, none⟩ = some (.int .i64 0) ∧ w7.cell? ⟨b11, 13, none⟩ = some (.int .i64 t.f3) ∧ w7.cell? ⟨b11, 14, none⟩ = some (.int .i64 y7) ∧ w7.cell? ⟨b11, 15, none⟩ = some (.int .u32 t.f0) ∧ w7.cell? ⟨b11, 16, none⟩ = some (.int .i64 y9) ∧ w7.cell? ⟨b10, 0, none⟩ = some (.int .u32 t.f0) ∧ w7.cell? ⟨b10, 3, none⟩ = some (.int .i64 t.f3) ∧ w7.cell? ⟨b4, 4, none⟩ = some (.int .i64 s.f4) ∧ w7.cell? ⟨b4, 6, none⟩ = some (.int .i64 s.f6) ∧ JBox w7 b11 (⟨id, y1, y2, s, 2, 0, t.f3, y7, t.f0, y9⟩ : S43) A3 c3 ∧ Kd.R k104 104 w7 w.heap.size (fun k => k ≠ b7) (.slice A3 (⟨id, y1, y2, s, 2, 0, t.f3, y7, t.f0, y9⟩ : S43).f3.f7.length c3) (⟨id, y1, y2, s, 2, 0, t.f3, y7, t.f0, y9⟩ : S43).f3.f7 ∧ LJ w b4 b7 (specC s A c) x A1 c1 w7 ∧ w7.heap[b10]? = some (.cells T 72 (0, 0)) := by
                rw [hTT]
                exact ⟨NB.out.cell 0 rfl, NB.out.cell 1 rfl, NB.out.cell 2 rfl, NB.out.cell 3 rfl, NB.out.cell 4 rfl, NB.out.cell 5 rfl, NB.out.cell 6 rfl, NB.out.cell 7 rfl, NB.out.cell 8 rfl, NB.out.cell 9 rfl, NB.out.cell 10 rfl, NB.out.cell 11 rfl, NB.out.cell 12 rfl, NB.out.cell 13 rfl, NB.out.cell 14 rfl, NB.out.cell 15 rfl, NB.out.cell 16 rfl, (blk_cell T10.out 0).trans rfl, (blk_cell T10.out 3).trans rfl, (blk_cell LS.out.1 4).trans rfl, (blk_cell LS.out.1 6).trans rfl, NB.out, RN.out, LS.out, T10.out⟩
              have hEnd : Hid (∀ W, JV W (⟨id, y1, y2, s, 2, 0, t.f3, y7, t.f0, y9⟩ : S43) A3 c3 → Calls Try.prog 54 #[.agg #[.int .i64 id, .int .i64 y1, .int .i64 y2, .string s.f0, .string s.f1, .string s.f2, .string s.f3, .int .i64 s.f4, .int .i64 s.f5, .int .i64 s.f6, .slice A3 s.f7.length c3, .int .u8 2, .int .i64 0, .int .i64 t.f3, .int .i64 y7, .int .u32 t.f0, .int .i64 y9]] W fun e w' => e = .returned (.int .i64 (wrap64 (t.f3 + s.f6))) ∧ Below W.heap.size W w') := Lib.hid (fun W hW => end_calls (⟨id, y1, y2, s, 2, 0, t.f3, y7, t.f0, y9⟩ : S43) A3 c3 W hW)
              have hCnt : Hid (∀ W, Calls Try.prog 53 #[.int .u32 t.f0] W fun e w' => e = .returned (.int .i64 s.f4) ∧ Below W.heap.size W w') := Lib.hid (fun W => by rw [← q4]; exact count_calls t.f0 HT.out W)
              have hq1 : (wrap64 (t.f3 + s.f6) != wrap64 (t.f3 + s.f6)) = false := bne_self_eq_false _
              have hq2 : (wrap64 (t.f3 + s.f6) != IntKind.i64.wrap (t.f3 + s.f6)) = false := by rw [i64_w]; exact hq1
              have hq3 : (t.f0 != t.f0) = false := bne_self_eq_false _
              have hq4 : (s.f4 != s.f4) = false := bne_self_eq_false _
              have hq5 : (t.f3 != t.f3) = false := bne_self_eq_false _
              replace hTT := Lib.hid hTT
              clear LS NB RN T10 g3 q4 h0 F1 F2 F6 F7 F8
              go_upto_region 19 with (fail)
              clear g1
              go_cut [123] (fun v123 wc => v123 = .bool false ∧ (wc.cell? ⟨b11, 0, none⟩ = some (.int .i64 id) ∧ wc.cell? ⟨b11, 1, none⟩ = some (.int .i64 y1) ∧ wc.cell? ⟨b11, 2, none⟩ = some (.int .i64 y2) ∧ wc.cell? ⟨b11, 3, none⟩ = some (.string s.f0) ∧ wc.cell? ⟨b11, 4, none⟩ = some (.string s.f1) ∧ wc.cell? ⟨b11, 5, none⟩ = some (.string s.f2) ∧ wc.cell? ⟨b11, 6, none⟩ = some (.string s.f3) ∧ wc.cell? ⟨b11, 7, none⟩ = some (.int .i64 s.f4) ∧ wc.cell? ⟨b11, 8, none⟩ = some (.int .i64 s.f5) ∧ wc.cell? ⟨b11, 9, none⟩ = some (.int .i64 s.f6) ∧ wc.cell? ⟨b11, 10, none⟩ = some (.slice A3 s.f7.length c3) ∧ wc.cell? ⟨b11, 11, none⟩ = some (.int .u8 2) ∧ wc.cell? ⟨b11, 12, none⟩ = some (.int .i64 0) ∧ wc.cell? ⟨b11, 13, none⟩ = some (.int .i64 t.f3) ∧ wc.cell? ⟨b11, 14, none⟩ = some (.int .i64 y7) ∧ wc.cell? ⟨b11, 15, none⟩ = some (.int .u32 t.f0) ∧ wc.cell? ⟨b11, 16, none⟩ = some (.int .i64 y9) ∧ wc.cell? ⟨b10, 0, none⟩ = some (.int .u32 t.f0) ∧ wc.cell? ⟨b10, 3, none⟩ = some (.int .i64 t.f3) ∧ wc.cell? ⟨b4, 4, none⟩ = some (.int .i64 s.f4) ∧ wc.cell? ⟨b4, 6, none⟩ = some (.int .i64 s.f6) ∧ JBox wc b11 (⟨id, y1, y2, s, 2, 0, t.f3, y7, t.f0, y9⟩ : S43) A3 c3 ∧ Kd.R k104 104 wc w.heap.size (fun k => k ≠ b7) (.slice A3 (⟨id, y1, y2, s, 2, 0, t.f3, y7, t.f0, y9⟩ : S43).f3.f7.length c3) (⟨id, y1, y2, s, 2, 0, t.f3, y7, t.f0, y9⟩ : S43).f3.f7 ∧ LJ w b4 b7 (specC s A c) x A1 c1 wc ∧ wc.heap[b10]? = some (.cells T 72 (0, 0))))
              case first =>
                as_aux_lemma =>
                go_region_held3 (fun w' => w'.cell? ⟨b11, 0, none⟩ = some (.int .i64 id) ∧ w'.cell? ⟨b11, 1, none⟩ = some (.int .i64 y1) ∧ w'.cell? ⟨b11, 2, none⟩ = some (.int .i64 y2) ∧ w'.cell? ⟨b11, 3, none⟩ = some (.string s.f0) ∧ w'.cell? ⟨b11, 4, none⟩ = some (.string s.f1) ∧ w'.cell? ⟨b11, 5, none⟩ = some (.string s.f2) ∧ w'.cell? ⟨b11, 6, none⟩ = some (.string s.f3) ∧ w'.cell? ⟨b11, 7, none⟩ = some (.int .i64 s.f4) ∧ w'.cell? ⟨b11, 8, none⟩ = some (.int .i64 s.f5) ∧ w'.cell? ⟨b11, 9, none⟩ = some (.int .i64 s.f6) ∧ w'.cell? ⟨b11, 10, none⟩ = some (.slice A3 s.f7.length c3) ∧ w'.cell? ⟨b11, 11, none⟩ = some (.int .u8 2) ∧ w'.cell? ⟨b11, 12, none⟩ = some (.int .i64 0) ∧ w'.cell? ⟨b11, 13, none⟩ = some (.int .i64 t.f3) ∧ w'.cell? ⟨b11, 14, none⟩ = some (.int .i64 y7) ∧ w'.cell? ⟨b11, 15, none⟩ = some (.int .u32 t.f0) ∧ w'.cell? ⟨b11, 16, none⟩ = some (.int .i64 y9) ∧ w'.cell? ⟨b10, 0, none⟩ = some (.int .u32 t.f0) ∧ w'.cell? ⟨b10, 3, none⟩ = some (.int .i64 t.f3) ∧ w'.cell? ⟨b4, 4, none⟩ = some (.int .i64 s.f4) ∧ w'.cell? ⟨b4, 6, none⟩ = some (.int .i64 s.f6) ∧ JBox w' b11 (⟨id, y1, y2, s, 2, 0, t.f3, y7, t.f0, y9⟩ : S43) A3 c3 ∧ Kd.R k104 104 w' w.heap.size (fun k => k ≠ b7) (.slice A3 (⟨id, y1, y2, s, 2, 0, t.f3, y7, t.f0, y9⟩ : S43).f3.f7.length c3) (⟨id, y1, y2, s, 2, 0, t.f3, y7, t.f0, y9⟩ : S43).f3.f7 ∧ LJ w b4 b7 (specC s A c) x A1 c1 w' ∧ w'.heap[b10]? = some (.cells T 72 (0, 0)))
                  (first | exact OR.keep (w0 := w) (u := (fun k => [.int .i64 id, .int .i64 y1, .int .i64 y2, .string s.f0, .string s.f1, .string s.f2, .string s.f3, .int .i64 s.f4, .int .i64 s.f5, .int .i64 s.f6, .slice A3 s.f7.length c3, .int .u8 2, .int .i64 0, .int .i64 t.f3, .int .i64 y7, .int .u32 t.f0, .int .i64 y9].getD k (.bool false))) (by assumption) (by assumption) | exact OR.keep (w0 := w) (u := (fun k => [.int .i64 id, .int .i64 y1, .int .i64 y2, .string s.f0, .string s.f1, .string s.f2, .string s.f3, .int .i64 s.f4, .int .i64 s.f5, .int .i64 s.f6, .slice A3 s.f7.length c3, .int .u8 2, .int .i64 0, .int .i64 t.f3, .int .i64 y7, .int .u32 t.f0, .int .i64 y9].getD k (.bool false))) (by assumption) (below_drew1 (Below.refl _ _)))
                  ((first | (go_at_call 54; refine (hEnd.out _ (OR.jv (w0 := w) (u := (fun k => [.int .i64 id, .int .i64 y1, .int .i64 y2, .string s.f0, .string s.f1, .string s.f2, .string s.f3, .int .i64 s.f4, .int .i64 s.f5, .int .i64 s.f6, .slice A3 s.f7.length c3, .int .u8 2, .int .i64 0, .int .i64 t.f3, .int .i64 y7, .int .u32 t.f0, .int .i64 y9].getD k (.bool false))) (by assumption))).mono ?_; rintro e w9 ⟨rfl, hb9⟩) | (go_at_call 53; refine (hCnt.out _).mono ?_; rintro e w9 ⟨rfl, hb9⟩)))
                all_goals
                  go_wp2
                  go_meet
                  case rel => exact ⟨rfl, by assumption⟩
              case rest =>
                as_aux_lemma =>
                clear hS hEnd hCnt hq1 hq2 hq3 hq4 hq5
                obtain ⟨rfl, _, _, _, _, _, _, _, _, _, _, _, _, _, _, _, _, _, _, _, _, _, m21, m22, m23, m24⟩ := hcut
                have NB := Lib.hid m21
                have RN := Lib.hid m22
                have LS := Lib.hid m23
                clear m21 m22 m23 m24
                have hld := NB.out.load
                have k7 := LS.out.2.1
                go_wp2_with (first | ((with_reducible refine gate_ (.load 43 (.tmp 11)) rfl ?_); refine wl_load 43 (.tmp 11) rfl rfl _ _ rfl hld ?_) | ((with_reducible refine gate_ (.store 43 (.tmp 7) (.tmp 149)) rfl ?_); refine st_job 43 (.tmp 7) (.tmp 149) (cells := jobC (⟨id, y1, y2, s, 2, 0, t.f3, y7, t.f0, y9⟩ : S43) A3 c3) rfl rfl rfl rfl k7 job_info rfl (jobC_one _ _ _) ?_; intro W6 h5 h6 h7))
                go_roundw
                case rel => exact ⟨1, j + 1, (⟨id, y1, y2, s, 2, 0, t.f3, y7, t.f0, y9⟩ : S43), A3, c3, by omega, by omega, by omega, by go_num, by go_num, HN1, Lib.hid ⟨(h6 b4 (by have := NE.out.1; omega)).trans LS.out.1, h5, Kd.R_step RN.out (fun k hk _ => h6 k hk), h7 _ _ NE.out.2 LS.out.2.2.2⟩⟩
                case measure => simp [intOf]; omega
            · as_aux_lemma =>
              have h0b : (t.f1 == 0) = false := beq_eq_false_iff_ne.2 h0
              obtain ⟨rfl, rfl, rfl, q4⟩ := F8.out h0
              have HN1 : Hid (InvJ id s (⟨id, y1, y2, s, y4, 0, x.f6, t.f3, x.f8, y9⟩ : S43) n) := Lib.hid ⟨F2.out, rfl, rfl, rfl, F6.out, by
                have := of_decide_eq_true q4
                rcases HI.out.2.2.2.2.2 with g | g
                · exact Or.inl g
                · exact Or.inr ⟨g.1, show y4 ≠ 1 by omega⟩⟩
              have Q4 := Lib.hid q4
              clear q4
              have c15 : w7.cell? ⟨b11, 15, none⟩ = some (.int .u32 x.f8) := NB.out.cell 15 rfl
              have d15 : w7.cell? ⟨b7, 15, none⟩ = some (.int .u32 x.f8) := LS.out.2.1.cell 15 rfl
              have c13 : w7.cell? ⟨b11, 13, none⟩ = some (.int .i64 x.f6) := NB.out.cell 13 rfl
              have d13 : w7.cell? ⟨b7, 13, none⟩ = some (.int .i64 x.f6) := LS.out.2.1.cell 13 rfl
              have c14 : w7.cell? ⟨b11, 14, none⟩ = some (.int .i64 t.f3) := NB.out.cell 14 rfl
              have c11 : w7.cell? ⟨b11, 11, none⟩ = some (.int .u8 y4) := NB.out.cell 11 rfl
              have hq3 : (x.f8 != x.f8) = false := bne_self_eq_false _
              have hq4 : (x.f6 != x.f6) = false := bne_self_eq_false _
              have hq5 : (t.f3 != t.f3) = false := bne_self_eq_false _
              clear F1 F2 F6 F7 F8 h0
              go_wp2_with fail
              refine (over_calls y4 _).mono ?_
              rintro e w8 ⟨he, hb⟩
              rw [Q4.out] at he
              subst he
              replace LS := Lib.hid (LS.out.keep hb)
              replace NB := Lib.hid (NB.out.keep hb)
              replace RN := Lib.hid (Kd.R_below RN.out hb)
              clear hb c15 d15 c13 d13 c14 c11 hq3 hq4 hq5 g1 g3 T10
              have hld := NB.out.load
              have k7 := LS.out.2.1
              go_wp2_with (first | ((with_reducible refine gate_ (.load 43 (.tmp 11)) rfl ?_); refine wl_load 43 (.tmp 11) rfl rfl _ _ rfl hld ?_) | ((with_reducible refine gate_ (.store 43 (.tmp 7) (.tmp 149)) rfl ?_); refine st_job 43 (.tmp 7) (.tmp 149) (cells := jobC (⟨id, y1, y2, s, y4, 0, x.f6, t.f3, x.f8, y9⟩ : S43) A3 c3) rfl rfl rfl rfl k7 job_info rfl (jobC_one _ _ _) ?_; intro W6 h5 h6 h7))
              go_roundw
              case rel => exact ⟨n, j + 1, (⟨id, y1, y2, s, y4, 0, x.f6, t.f3, x.f8, y9⟩ : S43), A3, c3, by omega, by omega, by omega, by go_num, by go_num, HN1, Lib.hid ⟨(h6 b4 (by have := NE.out.1; omega)).trans LS.out.1, h5, Kd.R_step RN.out (fun k hk _ => h6 k hk), h7 _ _ NE.out.2 LS.out.2.2.2⟩⟩
              case measure => simp [intOf]; omega
          · as_aux_lemma =>
            have hz1 : ((turnJ x t).2 != 0) = true := bne_iff_ne.2 hz
            have hy := turn_zero hz
            rw [hy] at NB RN
            generalize (turnJ x t).2 = ey at hz1 ⊢
            clear hz hy
            have hld := NB.out.load
            go_wp2_with ((with_reducible refine gate_ (.load 43 (.tmp 11)) rfl ?_); refine wl_load 43 (.tmp 11) rfl rfl _ _ rfl hld ?_)
            refine (sameZero_calls A3 none c3 0 _ (Kd.R_reads' RN.out).2.2 (Kd.C_nil _ _)).mono ?_
            rintro e w7 ⟨rfl, hb⟩
            replace LS := Lib.hid (LS.out.keep hb)
            clear hb hld NB RN T10
            go_wp2
            go_roundw
            case rel => exact ⟨n, j + 1, x, A1, c1, by omega, by omega, hn1, rfl, by go_num, HI, LS⟩
            case measure => simp [intOf]; omega
      · as_aux_lemma =>
        have hend : Hid (n ≤ 1) := Lib.hid hn1
        by_cases hjl : j < l.length
        · have q1 : (j : Int) < (l.length : Int) := by omega
          have q60 : ¬ (j : Int) < 60 := by omega
          go_wp2_with fail
          refine (awake18_calls _).mono ?_
          rintro e w3 ⟨rfl, hb⟩
          replace LS := Lib.hid (LS.out.keep hb)
          clear hb
          go_wp2
          go_ret
          exact ⟨rfl, LS.out.2.2.2⟩
        · have q1 : ¬ (j : Int) < (l.length : Int) := by omega
          go_wp2_with fail
          refine (awake18_calls _).mono ?_
          rintro e w3 ⟨rfl, hb⟩
          replace LS := Lib.hid (LS.out.keep hb)
          clear hb
          go_wp2
          go_ret
          exact ⟨rfl, LS.out.2.2.2⟩
end Go.Proofs.Ythcikldhlohjbaa.PJ
