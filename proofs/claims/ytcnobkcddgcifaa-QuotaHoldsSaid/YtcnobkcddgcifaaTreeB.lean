/- tree.Right, and the document's Right: which accounts may be. (A part of the print PT.) -/
import Derived.Test.YtcnobkcddgcifaaTree
import Derived.Test.YtcnobkcddgcifaaPTx15
import Derived.Test.YtcnobkcddgcifaaPTx16
import Derived.Test.YtcnobkcddgcifaaEv
set_option linter.unusedVariables false
set_option linter.unusedSimpArgs false
namespace Go.Proofs.Ytcnobkcddgcifaa.PT
open Go.RowKit Go.Proofs.YtcnobkcddgcifaaW.PrintWords Go.Proofs.YtcnobkcddgcifaaW.PrintLast Go.Proofs.YtcnobkcddgcifaaW.PrintMore Go.Proofs.Ytcnobkcddgcifaa.Gen Go.Proofs.Ytcnobkcddgcifaa.EvK
theorem rdA (l : List S57) (j : Nat) (h : j < l.length) : rd_T57 l (j : Int) = l[j] := by unfold rd_T57; simp [List.getD, h]
/-- May an account stand behind those ahead of it? -/
def okA (ahead : List S57) (x : S57) : Bool := !(findA ahead x.f0).2 && nameOK x.f0 && ((findA ahead x.f1).2 || x.f1.toList.isEmpty) && decide (-1 ≤ x.f2 ∧ x.f2 ≤ 1073741824)
/-- Is it a tree? -/
def allA (l : List S57) : Nat → Bool
  | 0 => true
  | j + 1 => allA l j && (match l[j]? with | some x => okA (l.take j) x | none => true)
def rightA (l : List S57) : Bool := allA l l.length && decide (1 ≤ l.length ∧ l.length ≤ 16)
theorem allA_step (l : List S57) (j : Nat) (h : j < l.length) : allA l (j + 1) = (allA l j && okA (l.take j) l[j]) := by rw [allA, List.getElem?_eq_getElem h]
theorem allA_bad (l : List S57) (j : Nat) (h : allA l j = false) : ∀ n, j ≤ n → allA l n = false := by
  intro n hn
  induction n with
  | zero => obtain rfl : j = 0 := by omega
            exact h
  | succ n ih =>
    rcases Nat.lt_or_ge n j with h1 | h1
    · obtain rfl : j = n + 1 := by omega
      exact h
    · rw [allA, ih h1, Bool.false_and]
theorem find_at (l : List S57) (A : Option Addr) (c n : Nat) (hn : l.length = n) (name : ByteArray) (w : World) (hr : Kd.C k57 w A n l) (hc : n ≤ c) :
    Calls Try.prog 28 #[.slice A n c, .string name] w fun e w' => e = .returned (.tuple #[.int .i64 (findA l name).1, .bool (findA l name).2]) ∧ Below w.heap.size w w' := by
  subst hn
  exact find_calls l A c name w hr hc
theorem C_takeN {w : World} {A : Option Addr} {l : List S57} (h : Kd.C k57 w A l.length l) (j : Nat) (hj : j ≤ l.length) : Kd.C k57 w A j (l.take j) := by
  have := Kd.C_take h hj
  rwa [List.length_take, Nat.min_eq_left hj] at this
/-- What the round holds of the world: the account's box, the row, what lay stays. -/
def RH (w0 : World) (A : Option Addr) (l : List S57) (b : Nat) (x : S57) (w' : World) : Prop :=
  w'.cell? ⟨b, 0, none⟩ = some (.string x.f0) ∧ w'.cell? ⟨b, 1, none⟩ = some (.string x.f1) ∧ w'.cell? ⟨b, 2, none⟩ = some (.int .i64 x.f2) ∧ Kd.C k57 w' A l.length l ∧ Below w0.heap.size w0 w'
theorem RH.row {w0 w1 : World} {A : Option Addr} {l : List S57} {b : Nat} {x : S57} (h : RH w0 A l b x w1) : Kd.C k57 w1 A l.length l := h.2.2.2.1
theorem RH.below {w0 w1 : World} {A : Option Addr} {l : List S57} {b : Nat} {x : S57} (h : RH w0 A l b x w1) : Below w0.heap.size w0 w1 := h.2.2.2.2
theorem box_cell (w : World) (C : Array Value) (t : TypeId) (i : Nat) (v : Value) (h : C[i]? = some v) : (w.alloc (.cells C t)).cell? ⟨w.heap.size, i, none⟩ = some v := by
  have hh := heap_alloc_new w (.cells C t)
  unfold World.cell?
  rw [hh]
  exact h
theorem RH.keep {w0 w1 w2 : World} {A : Option Addr} {l : List S57} {b : Nat} {x : S57} (h : RH w0 A l b x w1) (hb : Below w1.heap.size w1 w2) : RH w0 A l b x w2 := by
  obtain ⟨h0, h1, h2, h3, h4⟩ := h
  exact ⟨(hb.cell (World.block_lt_of_cell? w1 _ h0)).trans h0, (hb.cell (World.block_lt_of_cell? w1 _ h1)).trans h1, (hb.cell (World.block_lt_of_cell? w1 _ h2)).trans h2, Kd.C_below h3 hb, below_then h4 h4.size hb⟩
set_option maxRecDepth 100000 in
set_option maxHeartbeats 2000000 in
theorem treeRight_calls (l : List S57) (A : Option Addr) (c : Nat) (w : World) (hr : Kd.C k57 w A l.length l) (hc : l.length ≤ c) :
    Calls Try.prog 39 #[.slice A l.length c] w fun e w' => e = .returned (.bool (rightA l)) ∧ Below w.heap.size w w' := by
  have hln : l.length ≤ 9223372036854775807 := hr.2.1
  have HR := Lib.hid hr
  have HC := Lib.hid hc
  have HB0 := Lib.hid (Below.refl w.heap.size w)
  clear hr hc
  go_enter Try.func39, Try.ntmps39
  go_wp2
  go_loopw [11] (fun i wr => ∃ j : Nat, j ≤ l.length ∧ i = .int .i64 j ∧ Hid (allA l j = true) ∧ Hid (Below w.heap.size w wr)) (fun i _ => l.length - (intOf i).toNat)
  case atStart => exact ⟨0, Nat.zero_le _, rfl, Lib.hid rfl, HB0⟩
  case round =>
    obtain ⟨j, hj, rfl, HT, HB⟩ := hrel
    by_cases hlt : j < l.length
    · have p1 : 0 ≤ (j : Int) := by omega
      have q1 : (j : Int) < (l.length : Int) := by omega
      obtain ⟨ad, e1, hx0, hx1, hx2⟩ := at_T57 HR.out (j : Int) p1 q1
      rw [rdA l j hlt] at hx0 hx1 hx2
      cases e1
      replace hx0 := (HB.out.cell (World.block_lt_of_cell? w _ hx0)).trans hx0
      replace hx1 := (HB.out.cell (World.block_lt_of_cell? w _ hx1)).trans hx1
      replace hx2 := (HB.out.cell (World.block_lt_of_cell? w _ hx2)).trans hx2
      rw [Int.toNat_natCast] at hx0 hx1 hx2
      go_upto_region 4 with (fail)
      generalize hWD : wr.alloc (.cells _ 57) = WD
      obtain ⟨b, hbd⟩ : ∃ b, b = wr.heap.size := ⟨_, rfl⟩
      rw [← hbd]
      have hS : RH w (some ad) l b l[j] WD := by
        have hb := below_alloc (Below.refl _ wr) (.cells #[.string l[j].f0, .string l[j].f1, .int .i64 l[j].f2] 57)
        rw [hWD] at hb
        exact ⟨by rw [← hWD, hbd]; exact box_cell _ _ _ _ _ rfl, by rw [← hWD, hbd]; exact box_cell _ _ _ _ _ rfl, by rw [← hWD, hbd]; exact box_cell _ _ _ _ _ rfl, Kd.C_below HR.out (below_then HB.out HB.out.size hb), below_then HB.out HB.out.size hb⟩
      clear hWD hbd hx0 hx1 hx2
      generalize hx : l[j] = x at hS ⊢
      replace hx := Lib.hid hx
      have pj : (j : Int) ≤ (c : Int) := by have := HC.out; omega
      unfold RH at hS
      obtain ⟨⟨i1, t1⟩, hf1⟩ : ∃ r, r = findA (l.take j) x.f0 := ⟨_, rfl⟩
      obtain ⟨⟨i2, t2⟩, hf2⟩ : ∃ r, r = findA (l.take j) x.f1 := ⟨_, rfl⟩
      have HF1 : Hid (∀ W, Kd.C k57 W (some ad) l.length l → Calls Try.prog 28 #[.slice (some ad) j c, .string x.f0] W fun e w' => e = .returned (.tuple #[.int .i64 i1, .bool t1]) ∧ Below W.heap.size W w') := Lib.hid (fun W hW => by
        have h := find_at (l.take j) (some ad) c j (by rw [List.length_take]; omega) x.f0 W (C_takeN hW j hj) (by omega)
        rwa [← hf1] at h)
      have HF2 : Hid (∀ W, Kd.C k57 W (some ad) l.length l → Calls Try.prog 28 #[.slice (some ad) j c, .string x.f1] W fun e w' => e = .returned (.tuple #[.int .i64 i2, .bool t2]) ∧ Below W.heap.size W w') := Lib.hid (fun W hW => by
        have h := find_at (l.take j) (some ad) c j (by rw [List.length_take]; omega) x.f1 W (C_takeN hW j hj) (by omega)
        rwa [← hf2] at h)
      have HN : Hid (∀ W, Calls Try.prog 37 #[.string x.f0] W fun e w' => e = .returned (.bool (nameOK x.f0)) ∧ Below W.heap.size W w') := Lib.hid (fun W => name_calls x.f0 W)
      have HO : Hid (okA (l.take j) x = (!t1 && nameOK x.f0 && (t2 || x.f1.toList.isEmpty) && decide (-1 ≤ x.f2 ∧ x.f2 ≤ 1073741824))) := Lib.hid (by unfold okA; rw [← hf1, ← hf2])
      have HA : Hid (allA l (j + 1) = okA (l.take j) x) := Lib.hid (by rw [allA_step l j hlt, HT.out, Bool.true_and, hx.out])
      clear hf1 hf2 hx
      generalize nameOK x.f0 = nm at HN HO
      go_cut [6] (fun v6 wc => v6 = .bool t1 ∧ (wc.cell? ⟨b, 0, none⟩ = some (.string x.f0) ∧ wc.cell? ⟨b, 1, none⟩ = some (.string x.f1) ∧ wc.cell? ⟨b, 2, none⟩ = some (.int .i64 x.f2) ∧ Kd.C k57 wc (some ad) l.length l ∧ Below w.heap.size w wc))
      case first =>
        go_region_held3 (fun w' => w'.cell? ⟨b, 0, none⟩ = some (.string x.f0) ∧ w'.cell? ⟨b, 1, none⟩ = some (.string x.f1) ∧ w'.cell? ⟨b, 2, none⟩ = some (.int .i64 x.f2) ∧ Kd.C k57 w' (some ad) l.length l ∧ Below w.heap.size w w')
          (first | exact RH.keep (by assumption) (by assumption) | exact RH.keep (by assumption) (below_drew1 (Below.refl _ _)))
          ((go_at_call 28; refine (HF1.out _ (RH.row (by assumption))).mono ?_; rintro e w2 ⟨rfl, hb2⟩))
        all_goals
          go_wp2
          go_meet
          case rel => exact ⟨rfl, by assumption⟩
      case rest =>
        clear hS
        obtain ⟨rfl, hS⟩ := hcut
        go_upto_region 5 with (fail)
        go_cut [8] (fun v8 wc => v8 = .bool t2 ∧ (wc.cell? ⟨b, 0, none⟩ = some (.string x.f0) ∧ wc.cell? ⟨b, 1, none⟩ = some (.string x.f1) ∧ wc.cell? ⟨b, 2, none⟩ = some (.int .i64 x.f2) ∧ Kd.C k57 wc (some ad) l.length l ∧ Below w.heap.size w wc))
        case first =>
          go_region_held3 (fun w' => w'.cell? ⟨b, 0, none⟩ = some (.string x.f0) ∧ w'.cell? ⟨b, 1, none⟩ = some (.string x.f1) ∧ w'.cell? ⟨b, 2, none⟩ = some (.int .i64 x.f2) ∧ Kd.C k57 w' (some ad) l.length l ∧ Below w.heap.size w w')
            (first | exact RH.keep (by assumption) (by assumption) | exact RH.keep (by assumption) (below_drew1 (Below.refl _ _)))
            ((go_at_call 28; refine (HF2.out _ (RH.row (by assumption))).mono ?_; rintro e w2 ⟨rfl, hb2⟩))
          all_goals
            go_wp2
            go_meet
            case rel => exact ⟨rfl, by assumption⟩
        case rest =>
          clear hS
          obtain ⟨rfl, hS⟩ := hcut
          obtain ⟨g0, g1, g2, g3, g4⟩ := hS
          have HB4 := Lib.hid g4
          have G0 := Lib.hid g0
          have G1 := Lib.hid g1
          have G2 := Lib.hid g2
          clear g3 g4 HF1 HF2
          have g0 := G0.out
          have g1 := G1.out
          have g2 := G2.out
          obtain ⟨vb, hvb⟩ : ∃ vb, vb = okA (l.take j) x := ⟨_, rfl⟩
          rw [← hvb] at HO HA
          replace hvb := Lib.hid hvb
          cases t1 with
          | true =>
            have HV : Hid (rightA l = false) := Lib.hid (by
              unfold rightA
              rw [allA_bad l (j + 1) (by rw [HA.out, HO.out]; rfl) l.length (by omega)]
              rfl)
            go_wp2
            go_ret
            exact ⟨by rw [HV.out]; rfl, HB4.out⟩
          | false =>
            go_wp2_with fail
            refine (HN.out _).mono ?_
            rintro e w5 ⟨rfl, hb5⟩
            replace g0 := (hb5.cell (World.block_lt_of_cell? _ _ g0)).trans g0
            replace g1 := (hb5.cell (World.block_lt_of_cell? _ _ g1)).trans g1
            replace g2 := (hb5.cell (World.block_lt_of_cell? _ _ g2)).trans g2
            replace HB4 := Lib.hid (below_then HB4.out HB4.out.size hb5)
            clear hb5 G0 G1 G2
            obtain ⟨em, hem⟩ : ∃ em, em = x.f1.toList.isEmpty := ⟨_, rfl⟩
            rw [← hem] at HO
            have hem2 : x.f1.toList.isEmpty = em := hem.symm
            have hem3 : em = true → x.f1.toList = [] := fun h => by rw [h] at hem2; simpa using hem2
            have hem4 : em = false → ¬ x.f1.toList = [] := fun h h2 => by rw [h, h2] at hem2; cases hem2
            clear hem
            have HE := Lib.hid hem2
            clear hem2
            have bad : Hid (vb = false → rightA l = false) := Lib.hid (fun hv => by
              unfold rightA
              rw [allA_bad l (j + 1) (by rw [HA.out, hv]) l.length (by omega)]
              rfl)
            have good : Hid (vb = true → allA l (j + 1) = true) := Lib.hid (fun hv => by rw [HA.out, hv])
            cases nm <;> cases t2 <;> cases em <;> by_cases hl1 : x.f2 < -1 <;> by_cases hl2 : 1073741824 < x.f2
            all_goals
              first
              | (exfalso; omega)
              | skip
            all_goals
              first
              | (have HV : Hid (vb = false) := Lib.hid (by rw [HO.out]; first | rfl | (rw [decide_eq_false (by omega)]; rfl))
                 have HS : Hid True := Lib.hid trivial
                 first | (have hq := hem3 rfl) | (have hq := hem4 rfl)
                 clear hem3 hem4
                 have hz := HE.out
                 clear HE
                 go_wp2
                 go_ret
                 exact ⟨by rw [bad.out HV.out]; rfl, HB4.out⟩)
              | (have HV : Hid (vb = true) := Lib.hid (by rw [HO.out]; first | rfl | (rw [decide_eq_true (by omega)]; rfl))
                 first | (have hq := hem3 rfl) | (have hq := hem4 rfl)
                 clear hem3 hem4
                 have hz := HE.out
                 clear HE
                 have HG := Lib.hid (good.out HV.out)
                 clear good bad HV
                 go_wp2
                 go_roundw
                 case rel => exact ⟨j + 1, by omega, by go_num, HG, HB4⟩
                 case measure => simp [intOf]; omega)
    · obtain rfl : j = l.length := by omega
      by_cases h1 : 1 ≤ l.length
      · have HV : Hid (rightA l = decide ((l.length : Int) ≤ 16)) := Lib.hid (by unfold rightA; rw [HT.out, Bool.eq_iff_iff]; simp; omega)
        go_wp2
        go_ret
        exact ⟨by rw [HV.out]; rfl, HB.out⟩
      · have HV : Hid (rightA l = false) := Lib.hid (by unfold rightA; rw [HT.out]; simp [h1])
        go_wp2
        go_ret
        exact ⟨by rw [HV.out]; rfl, HB.out⟩
end Go.Proofs.Ytcnobkcddgcifaa.PT
