/- QuotaAdds: usage adds up. (A part of the print PT.) -/
import Derived.Test.YtcnobkcddgcifaaQuotaK
set_option linter.unusedVariables false
set_option linter.unusedSimpArgs false
namespace Go.Proofs.Ytcnobkcddgcifaa.PT
open Go.RowKit Go.Proofs.YtcnobkcddgcifaaW.PrintWords Go.Proofs.YtcnobkcddgcifaaW.PrintLast Go.Proofs.YtcnobkcddgcifaaW.PrintMore Go.Proofs.Ytcnobkcddgcifaa.Gen Go.Proofs.Ytcnobkcddgcifaa.EvK
/-- Here the walk stops. -/
def Stop (p : Prop) : Prop := p
theorem stop_ {p : Prop} (h : Stop p) : p := h
theorem wild_f (s : S32) : musterlaw15_wild.f s.f0 s.f1 s.f2 s.f3 s.f4 s.f5 s.f6 s.f7 = some (!tameS s) := by
  unfold musterlaw15_wild.f tameS
  by_cases h1 : s.f4 < 1
  · rw [if_pos h1, decide_eq_false (by omega)]; rfl
  rw [if_neg h1]
  by_cases h2 : s.f4 > 64
  · rw [if_pos h2, decide_eq_false (by omega)]; rfl
  rw [if_neg h2]
  by_cases h3 : s.f5 < 1
  · rw [if_pos h3, decide_eq_false (by omega)]; rfl
  rw [if_neg h3]
  by_cases h4 : s.f5 > 64
  · rw [decide_eq_true h4, decide_eq_false (by omega)]; rfl
  · rw [decide_eq_false h4, decide_eq_true (by omega)]; rfl
theorem wilds_l0 (l : List S53) (hl : l.length < 9000000000000000000) : ∀ d j, l.length - j = d → j ≤ l.length → Ev (fun k => musterlaw15_wilds.l0 k l (j : Int)) ((l.drop j).any (fun x => !tameS x.f3))
  | 0, j, hd, hj => Ev.stp (fun k => by rw [musterlaw15_wilds.l0]) (Ev.neg (by omega) (Ev.one (by rw [List.drop_of_length_le (by omega)]; rfl)))
  | d + 1, j, hd, hj => by
    have hlt : j < l.length := by omega
    refine Ev.stp (fun k => by rw [musterlaw15_wilds.l0]) (Ev.pos (by omega) (Ev.pos (by omega) ?_))
    rw [rdJob hlt, wild_f]
    refine Ev.sbnd ?_
    rw [List.drop_eq_getElem_cons hlt, List.any_cons]
    cases tameS l[j].f3 with
    | false => exact Ev.pos rfl (Ev.one (by simp))
    | true =>
      refine Ev.neg (by decide) ?_
      rw [wr1 (by omega)]
      simpa using wilds_l0 l hl d (j + 1) (by omega) (by omega)
theorem wilds_calls (l : List S53) (hl : l.length < 9000000000000000000) (A : Option Addr) (c : Nat) (w : World) (hr : Kd.C k53 w A l.length l) (hc : l.length ≤ c) : Calls Try.prog 7 #[.slice A l.length c] w fun e w' => e = .returned (.bool (l.any (fun x => !tameS x.f3))) ∧ Below w.heap.size w w' := by
  obtain ⟨k, hk⟩ := Ev.the (wilds_l0 l hl _ 0 rfl (Nat.zero_le _))
  exact musterlaw15_wilds.calls k A c l _ w hr hc hk
theorem load_F {α : Type} {d : Kd α} {t : TypeId} {w : World} {A : Option Addr} {n : Nat} {l : List α} {ok : Nat → Prop} {D : TypeDesc} (hu : Try.prog.underlying t = some D) (hd : D.isRow = true) (hi : (Try.prog.info? t).map (·.size) = some d.sz) (h : Kd.F d w ok A n l) (z : α) (j : Nat) (hj : j < l.length) (hn : l.length = n) :
    ∃ (ad : Addr) (cs : List Value), A = some ad ∧ Kd.FK d w ok l[j] cs ∧ (Instr.loadAt t (.pointer (some (ad.add (j * d.sz))))).run Try.prog w = .ok (.agg cs.toArray) w := by
  obtain ⟨ad, cs, e, hl, hK, hcell, _⟩ := Kd.F_get h z (j : Int) (by omega) (by omega)
  have hg : l.getD j z = l[j] := by simp [List.getD, hj]
  rw [Int.toNat_natCast] at hK hcell
  rw [hg] at hK
  refine ⟨ad, cs, e, hK, ?_⟩
  have hl2 : (loadCells (ad.add (j * d.sz)) cs.length).run Try.prog w = .ok cs.toArray w := run_loadCells_list (P := Try.prog) w _ cs (fun i v hv => by
    rw [add_add]
    exact hcell i v hv)
  have hagg : (isAgg t).run Try.prog w = .ok true w := by
    unfold isAgg
    rw [Sem.run_bind, run_underlying hu w]
    cases D <;> simp_all
  cases hq : Try.prog.info? t with
  | none => simp [hq] at hi
  | some i =>
    have hs : i.size = cs.length := by simp [hq] at hi; omega
    simp [Instr.loadAt, Instr.sureAddr, loadVar, Sem.run_bind, hagg, sizeOf, typeInfo, hq, hs, hl2]
theorem job_ld {w : World} {g : Nat} {x : S53} {A : Option Addr} {c : Nat} (h : w.heap[g]? = some (.cells (jobC x A c) 53 (0, 0))) : (Instr.loadAt 53 (.pointer (some ⟨g, 0, none⟩))).run Try.prog w = .ok (.agg (jobC x A c)) w := by
  have hld := run_loadVar_row (P := Try.prog) w g 53 53 (jobC x A c) (0, 0) _ h Try.underlying53 rfl infoJob
  simp only [Instr.loadAt, Instr.sureAddr, Sem.run_bind, Sem.run_pure, Result.andThen_ok, hld]
/-- The jobs of the first j that do not run. -/
def idleQ (l : List S53) (j : Nat) : List S53 := (l.take j).filter (fun x => !(x.f4 == 2))
theorem idle_step (l : List S53) (j : Nat) (h : j < l.length) : idleQ l (j + 1) = idleQ l j ++ (if (l[j].f4 == 2) = true then [] else [l[j]]) := by
  unfold idleQ
  rw [List.take_succ_eq_append_getElem h, List.filter_append]
  cases hh : (l[j].f4 == 2) <;> simp [List.filter, hh]
theorem idle_len (l : List S53) (j : Nat) : (idleQ l j).length ≤ l.length := Nat.le_trans (List.length_filter_le _ _) (by rw [List.length_take]; omega)
theorem idle_mem (l : List S53) (j : Nat) : ∀ x ∈ idleQ l j, x ∈ l ∧ ¬ x.f4 = 2 := by
  intro x hx
  obtain ⟨h1, h2⟩ := List.mem_filter.1 hx
  exact ⟨List.mem_of_mem_take h1, by simpa using h2⟩
/-- What the law holds from its rows on. -/
structure AQ (w W : World) (g : Nat) (cs : Array Value) (q : List S59) (ac : List S57) (A1 : Option Addr) (a : List S53) (A2 : Option Addr) (b : List S53) (A3 : Option Addr) (A4 : Option Addr) : Prop where
  bel : Below w.heap.size w W
  box : W.heap[g]? = some (.cells cs 28 (0, 0))
  cfg : Cfg W cs q ac
  ra : Kd.C k53 W A1 a.length a
  rb : Kd.C k53 W A2 b.length b
  rc : Kd.C k53 W A3 (a ++ b).length (a ++ b)
  rd : Kd.C k53 W A4 (idleQ (a ++ b) (a ++ b).length).length (idleQ (a ++ b) (a ++ b).length)
theorem AQ.below {w W W1 : World} {g : Nat} {cs : Array Value} {q : List S59} {ac : List S57} {A1 A2 A3 A4 : Option Addr} {a b : List S53} (h : AQ w W g cs q ac A1 a A2 b A3 A4) (hb : Below W.heap.size W W1) : AQ w W1 g cs q ac A1 a A2 b A3 A4 :=
  ⟨below_then h.bel h.bel.size hb, (hb.block g (blk_lt h.box)).trans h.box, h.cfg.below hb, Kd.C_below h.ra hb, Kd.C_below h.rb hb, Kd.C_below h.rc hb, Kd.C_below h.rd hb⟩
theorem cores_ok {q : List S59} {ac : List S57} (hr : rightQ q ac = true) (l : List S53) {a : ByteArray} (hf : (findA ac a).2 = true) : coresQ q ac l a = (usedQ ac l a, 0) := by unfold coresQ; rw [if_pos hr, if_pos hf]
theorem qos_ok {q : List S59} {ac : List S57} (hr : rightQ q ac = true) (l : List S53) {a : ByteArray} (hf : q.any (isQ a) = true) : qosQ q ac l a = (sumQ (qosP a) l, ((numQ (qosP a) l : Nat) : Int), 0) := by unfold qosQ; rw [if_pos hr, if_pos hf]
theorem cores_at {W : World} {cs : Array Value} {q : List S59} {ac : List S57} (h : Cfg W cs q ac) (hr : rightQ q ac = true) (hl : ac.length ≤ 16) (l : List S53) (n : Nat) (hn : n = l.length) (A : Option Addr) (c : Nat) (a : ByteArray) (hC : Kd.C k53 W A l.length l) (hc : l.length ≤ c) (T : Tame l) (hf : (findA ac a).2 = true) :
    Calls Try.prog 11 #[.agg cs, .slice A n c, .string a] W fun e w' => e = .returned (.tuple #[.int .i64 (usedQ ac l a), .int .i64 0]) ∧ Below W.heap.size W w' := by
  have h1 := cores_calls h (by omega) l A c a hC hc T
  rw [cores_ok hr _ hf] at h1
  subst hn
  exact h1
theorem qos_at {W : World} {cs : Array Value} {q : List S59} {ac : List S57} (h : Cfg W cs q ac) (hr : rightQ q ac = true) (l : List S53) (n : Nat) (hn : n = l.length) (A : Option Addr) (c : Nat) (a : ByteArray) (hC : Kd.C k53 W A l.length l) (hc : l.length ≤ c) (T : Tame l) (hf : q.any (isQ a) = true) :
    Calls Try.prog 13 #[.agg cs, .slice A n c, .string a] W fun e w' => e = .returned (.tuple #[.int .i64 (sumQ (qosP a) l), .int .i64 ((numQ (qosP a) l : Nat) : Int), .int .i64 0]) ∧ Below W.heap.size W w' := by
  have h1 := qos_calls h l A c a hC hc T
  rw [qos_ok hr _ hf] at h1
  subst hn
  exact h1
theorem Cfg.rowA {w : World} {A0 : Option Addr} {n0 c0 : Nat} {A1 : Option Addr} {n1 c1 : Nat} {A2 : Option Addr} {n2 c2 : Nat} {A3 : Option Addr} {n3 c3 : Nat} {pl : Int} {q : List S59} {ac : List S57} (h : Cfg w (cfgV A0 n0 c0 A1 n1 c1 A2 n2 c2 A3 n3 c3 pl) q ac) : Kd.C k57 w A2 ac.length ac ∧ ac.length ≤ c2 := by
  obtain ⟨_, _, _, _, _, _, _, _, _, _, _, he, h0, h1, h2, h3, h4, h5, h6, h7⟩ := h.is
  unfold cfgV at he
  simp only [Array.mk.injEq, List.cons.injEq, Value.slice.injEq] at he
  obtain ⟨_, _, ⟨rfl, _, rfl⟩, _⟩ := he
  exact ⟨h4, h5⟩
theorem Cfg.rowQ {w : World} {A0 : Option Addr} {n0 c0 : Nat} {A1 : Option Addr} {n1 c1 : Nat} {A2 : Option Addr} {n2 c2 : Nat} {A3 : Option Addr} {n3 c3 : Nat} {pl : Int} {q : List S59} {ac : List S57} (h : Cfg w (cfgV A0 n0 c0 A1 n1 c1 A2 n2 c2 A3 n3 c3 pl) q ac) : Kd.C k59 w A3 q.length q ∧ q.length ≤ c3 := by
  obtain ⟨_, _, _, _, _, _, _, _, _, _, _, he, h0, h1, h2, h3, h4, h5, h6, h7⟩ := h.is
  unfold cfgV at he
  simp only [Array.mk.injEq, List.cons.injEq, Value.slice.injEq] at he
  obtain ⟨_, _, _, ⟨rfl, _, rfl⟩, _⟩ := he
  exact ⟨h6, h7⟩
set_option maxRecDepth 100000 in
set_option maxHeartbeats 16000000 in
theorem adds_law {w : World} {cs : Array Value} {q : List S59} {ac : List S57} (h : Cfg w cs q ac) (a b : List S53) (A1 : Option Addr) (c1 : Nat) (A2 : Option Addr) (c2 : Nat) (hr1 : Kd.C k53 w A1 a.length a) (hc1 : a.length ≤ c1) (hr2 : Kd.C k53 w A2 b.length b) (hc2 : b.length ≤ c2)
    (hl1 : a.length ≤ 764877654105) (hl2 : b.length ≤ 764877654105) (hd1 : ∀ x ∈ a, x.f3.f7.length < 8796093022208) (hd2 : ∀ x ∈ b, x.f3.f7.length < 8796093022208) :
    Calls Try.prog 5 #[.agg cs, .slice A1 a.length c1, .slice A2 b.length c2] w fun e w' => e = .returned (.bool true) ∧ Below w.heap.size w w' := by
  have HQ := Lib.hid h
  have HA := Lib.hid (And.intro hr1 (And.intro hc1 (And.intro hl1 hd1)))
  have HBb := Lib.hid (And.intro hr2 (And.intro hc2 (And.intro hl2 hd2)))
  obtain ⟨n1, hn1⟩ : ∃ n, n = a.length := ⟨_, rfl⟩
  obtain ⟨n2, hn2⟩ : ∃ n, n = b.length := ⟨_, rfl⟩
  rw [← hn1] at hl1 ⊢
  rw [← hn2] at hl2 ⊢
  have HN := Lib.hid (And.intro hn1 hn2)
  have hw0 : IntKind.i64.wrap ((n1 : Int) + (n2 : Int)) = (n1 : Int) + (n2 : Int) := by rw [IntKind.wrap_i64]; omega
  have hw1 : wrap64 ((n1 : Int) + (n2 : Int)) = (n1 : Int) + (n2 : Int) := by unfold wrap64; omega
  obtain ⟨A0, c0, l0, B1, d1, l1, B2, d2, B3, d3, pl, rfl, _⟩ := h.is
  clear h hr1 hc1 hr2 hc2 hd1 hd2 hn1 hn2
  have HO : Hid ((w.alloc (.cells (cfgV A0 l0.length c0 B1 l1.length d1 B2 ac.length d2 B3 q.length d3 pl) 28)).heap[w.heap.size]? = some (.cells (cfgV A0 l0.length c0 B1 l1.length d1 B2 ac.length d2 B3 q.length d3 pl) 28 (0, 0))) := Lib.hid (heap_alloc_new w _)
  have HB := Lib.hid (below_alloc (Below.refl w.heap.size w) (.cells (cfgV A0 l0.length c0 B1 l1.length d1 B2 ac.length d2 B3 q.length d3 pl) 28))
  go_enter Try.func5, Try.ntmps5
  go_upto_region 1 with (fail)
  generalize w.alloc _ = W at HO HB ⊢
  obtain ⟨g, hg⟩ : ∃ g, g = w.heap.size := ⟨_, rfl⟩
  rw [← hg] at HO ⊢
  have HG := Lib.hid hg
  clear hg
  by_cases hb200 : (200 : Int) < (n1 : Int) + (n2 : Int)
  · as_aux_lemma =>
    go_wp2_with fail
    refine (awake15_calls _).mono ?_
    rintro e wz ⟨rfl, hb⟩
    have HBz := Lib.hid (below_then HB.out HB.out.size hb)
    clear hb
    go_wp2
    go_ret
    exact ⟨rfl, HBz.out⟩
  have HWa := Lib.hid (show Calls Try.prog 7 #[.slice A1 n1 c1] W fun e w' => e = .returned (.bool (a.any (fun x => !tameS x.f3))) ∧ Below W.heap.size W w' by
    rw [HN.out.1]
    exact wilds_calls a (by have := HA.out.2.2.1; omega) A1 c1 W (Kd.C_below HA.out.1 HB.out) HA.out.2.1)
  have HWb := Lib.hid (fun W2 (hb : Below W.heap.size W W2) => show Calls Try.prog 7 #[.slice A2 n2 c2] W2 fun e w' => e = .returned (.bool (b.any (fun x => !tameS x.f3))) ∧ Below W2.heap.size W2 w' by
    rw [HN.out.2]
    exact wilds_calls b (by have := HBb.out.2.2.1; omega) A2 c2 W2 (Kd.C_below (Kd.C_below HBb.out.1 HB.out) hb) HBb.out.2.1)
  go_wp2_with fail
  refine HWa.out.mono ?_
  rintro e w1 ⟨rfl, hb⟩
  have HB1 := Lib.hid hb
  clear hb HWa
  cases hwa : a.any (fun x => !tameS x.f3) with
  | true =>
    as_aux_lemma =>
    have HBx := Lib.hid (below_then HB.out HB.out.size HB1.out)
    go_wp2_with fail
    refine (awake15_calls _).mono ?_
    rintro e wz ⟨rfl, hb⟩
    have HBz := Lib.hid (below_then HBx.out HBx.out.size hb)
    clear hb
    go_wp2
    go_ret
    exact ⟨rfl, HBz.out⟩
  | false =>
    go_wp2_with fail
    refine (HWb.out _ HB1.out).mono ?_
    rintro e w2 ⟨rfl, hb⟩
    have HB2 := Lib.hid (below_then HB1.out HB1.out.size hb)
    clear hb HWb HB1
    have HO2 := Lib.hid ((HB2.out.block g (blk_lt HO.out)).trans HO.out)
    cases hwb : b.any (fun x => !tameS x.f3) with
    | true =>
      as_aux_lemma =>
      have HBx := Lib.hid (below_then HB.out HB.out.size HB2.out)
      go_wp2_with fail
      refine (awake15_calls _).mono ?_
      rintro e wz ⟨rfl, hb⟩
      have HBz := Lib.hid (below_then HBx.out HBx.out.size hb)
      clear hb
      go_wp2
      go_ret
      exact ⟨rfl, HBz.out⟩
    | false =>
      have HTa := Lib.hid hwa
      have HTb := Lib.hid hwb
      clear hwa hwb
      have HRt := Lib.hid (cright_calls (HQ.out.below (below_then HB.out HB.out.size HB2.out)))
      go_wp2_with (first | ((with_reducible refine gate_ (.load 28 (.tmp 3)) rfl ?_); (refine gate_guard (by rfl) ?_; dsimp only); refine wl_load 28 (.tmp 3) rfl rfl _ _ rfl (cfg_ld HO2.out) ?_) | fail)
      refine HRt.out.mono ?_
      rintro e w3 ⟨rfl, hb⟩
      have HB3 := Lib.hid (below_then HB2.out HB2.out.size hb)
      have HO3 := Lib.hid ((hb.block g (blk_lt HO2.out)).trans HO2.out)
      clear hb HRt HB2 HO2 HO
      cases hrq : rightQ q ac with
      | false =>
        as_aux_lemma =>
        have HBx := Lib.hid (below_then HB.out HB.out.size HB3.out)
        go_wp2_with fail
        refine (awake15_calls _).mono ?_
        rintro e wz ⟨rfl, hb⟩
        have HBz := Lib.hid (below_then HBx.out HBx.out.size hb)
        clear hb
        go_wp2
        go_ret
        exact ⟨rfl, HBz.out⟩
      | true =>
        have HR := Lib.hid hrq
        clear hrq
        have HTA : Hid (∀ x ∈ a, tameS x.f3 = true) := Lib.hid (fun x hx => by have := HTa.out; rw [List.any_eq_false] at this; simpa using this x hx)
        have HTB : Hid (∀ x ∈ b, tameS x.f3 = true) := Lib.hid (fun x hx => by have := HTb.out; rw [List.any_eq_false] at this; simpa using this x hx)
        have hs200 : n1 + n2 ≤ 200 := by omega
        have HCa := Lib.hid (show Calls Try.prog 10 #[.slice A1 n1 c1] w3 fun e w' => ∃ A' c', e = .returned (.slice A' n1 c') ∧ Kd.R k53 53 w' w3.heap.size (fun _ => True) (.slice A' n1 c') a ∧ Below w3.heap.size w3 w' by
          rw [HN.out.1]
          exact copyJ_calls a (by have := HN.out.1; omega) HA.out.2.2.2 A1 c1 w3 (Kd.C_below (Kd.C_below HA.out.1 HB.out) HB3.out) HA.out.2.1)
        have HCb := Lib.hid (fun W2 (hb : Below w3.heap.size w3 W2) => show Calls Try.prog 10 #[.slice A2 n2 c2] W2 fun e w' => ∃ A' c', e = .returned (.slice A' n2 c') ∧ Kd.R k53 53 w' W2.heap.size (fun _ => True) (.slice A' n2 c') b ∧ Below W2.heap.size W2 w' by
          rw [HN.out.2]
          exact copyJ_calls b (by have := HN.out.2; omega) HBb.out.2.2.2 A2 c2 W2 (Kd.C_below (Kd.C_below (Kd.C_below HBb.out.1 HB.out) HB3.out) hb) HBb.out.2.1)
        go_wp2_with fail
        refine HCa.out.mono ?_
        rintro e w4 ⟨Aa, ca, rfl, hR, hb⟩
        have HRa := Lib.hid hR
        have HB4 := Lib.hid hb
        clear hR hb HCa
        go_wp2_with fail
        refine (HCb.out _ HB4.out).mono ?_
        rintro e w5 ⟨Ab, cb, rfl, hR, hb⟩
        have HRb := Lib.hid (show Kd.N k53 53 w5 w4.heap.size (fun k => some k ≠ (Value.slice Aa n1 ca).ownBlock) (.slice Ab n2 cb) b from Kd.R_N (Kd.R_mono (Kd.R_bound hR) (fun k hk e => by have h1 := Kd.R_lt HRa.out k e.symm; have h2 := hk.2.1; omega)))
        have HRa5 := Lib.hid (Kd.R_N (Kd.R_below HRa.out hb))
        have HB5 := Lib.hid (below_then HB4.out HB4.out.size hb)
        clear hR hb HCb HRa HB4
        go_upto_region 4 with ((with_reducible refine gate_builtin (b := .append) (xs := #[.tmp 53, .tmp 55]) rfl ?_); at_builtin; refine Kd.N_append_rows k53 (w0 := w3) w3.heap.size rfl (.tmp 53) (.tmp 55) 29 53 (.agg #[.int .i64 0, .int .i64 0, .int .i64 0, .string ⟨#[]⟩, .string ⟨#[]⟩, .string ⟨#[]⟩, .string ⟨#[]⟩, .int .i64 0, .int .i64 0, .int .i64 0, .slice none 0 0, .int .u8 0, .int .i64 0, .int .i64 0, .int .i64 0, .int .u32 0, .int .i64 0]) 184 rfl Try.underlying29 infoJobZ rfl (by decide) (by decide) (.slice Aa n1 ca) a b Ab n2 cb (fun _ => True) (fun k => some k ≠ (Value.slice Aa n1 ca).ownBlock) rfl rfl HRa5.out (Kd.N_F HRb.out) (fun _ hk => ⟨trivial, hk⟩) (fun _ _ => trivial) HB5.out HB5.out.size (by have := HN.out; omega) ?_; intro v6 w6 ho hb _ _; obtain ⟨Ac, cc, hv⟩ := Kd.N_slice ho; obtain ⟨n3, hn3⟩ : ∃ n, n = (a ++ b).length := ⟨_, rfl⟩; rw [← hn3] at hv; subst hv; have HRc := Lib.hid ho; have HB6 := Lib.hid hb; have HN3 := Lib.hid hn3; clear ho hb hn3)
        have HO6 := Lib.hid ((HB6.out.block g (blk_lt HO3.out)).trans HO3.out)
        clear HRa5 HRb HB5 HO3
        have hn3l : n3 ≤ 200 := by have := HN.out; have := HN3.out; rw [List.length_append] at this; omega
        have HBw := Lib.hid (below_then (below_then HB.out HB.out.size HB3.out) (below_then HB.out HB.out.size HB3.out).size HB6.out)
        have HFc := Lib.hid (show Kd.N k53 53 w6 w3.heap.size (fun k => k < w6.heap.size) (.slice Ac n3 cc) (a ++ b) from Kd.N_mono (Kd.N_bound HRc.out) (fun _ hk => hk.2))
        clear HRc
        go_wp2_with fail
        go_loopw [8, 59] (fun v8 v59 wr => ∃ (j : Nat), j ≤ n3 ∧ v59 = .int .i64 j ∧ Hid (Below w6.heap.size w6 wr) ∧ Hid (Kd.N k53 53 wr w6.heap.size (fun _ => True) v8 (idleQ (a ++ b) j))) (fun _ v59 _ => n3 - (intOf v59).toNat)
        case atStart => exact ⟨0, Nat.zero_le _, rfl, Lib.hid (Below.refl _ _), Lib.hid (Kd.N_nil _ _ _ _ _)⟩
        case round =>
          obtain ⟨j, hj, rfl, HBr, HId⟩ := hrel
          by_cases hlt : j < n3
          · skip
            have hjl : j < (a ++ b).length := by have := HN3.out; omega
            obtain ⟨ad, csx, e1, hFK, hld0⟩ := load_F (t := 53) Try.underlying53 rfl infoJob (Kd.N_F (Kd.N_below HFc.out HBr.out)) z53 j hjl HN3.out.symm
            obtain ⟨x, hx⟩ : ∃ x, x = (a ++ b)[j] := ⟨_, rfl⟩
            have hst := idle_step (a ++ b) j hjl
            rw [← hx] at hst hFK
            have HST := Lib.hid hst
            clear hst hx hjl
            obtain ⟨A10, c10, rfl, _, _⟩ := k53_open (Kd.FK_now hFK)
            have HFK := Lib.hid hFK
            clear hFK
            rw [show (k53).sz = 17 from rfl] at hld0
            have hld : (Instr.loadAt 53 (.pointer (some (ad.add (j * 17))))).run Try.prog wr = .ok (.agg (jobC x A10 c10)) wr := hld0
            clear hld0
            cases e1
            obtain ⟨A8, c8, hv8⟩ := Kd.N_slice HId.out
            obtain ⟨n8, hn8⟩ : ∃ n, n = (idleQ (a ++ b) j).length := ⟨_, rfl⟩
            rw [← hn8] at hv8
            subst hv8
            have HN8 := Lib.hid hn8
            clear hn8
            unfold jobC at hld
            go_upto_region 8 with ((with_reducible refine gate_ (.load 53 (.tmp 61)) rfl ?_); refine wl_load 53 (.tmp 61) rfl rfl _ _ rfl hld ?_)
            have HOj : Hid ((wr.alloc (.cells (jobC x A10 c10) 53)).heap[wr.heap.size]? = some (.cells (jobC x A10 c10) 53 (0, 0))) := Lib.hid (heap_alloc_new wr _)
            have hbj := below_alloc (Below.refl wr.heap.size wr) (.cells (jobC x A10 c10) 53)
            have HBj := Lib.hid (below_then HBr.out HBr.out.size hbj)
            have HIj := Lib.hid (Kd.N_below HId.out hbj)
            have HFj := Lib.hid (Kd.FK_below HFK.out hbj)
            unfold jobC at HOj hbj HBj HIj HFj
            clear hbj hld HBr HId HFK
            generalize wr.alloc _ = Wj at HOj HBj HIj HFj ⊢
            obtain ⟨gj, hgj⟩ : ∃ x, x = wr.heap.size := ⟨_, rfl⟩
            rw [← hgj] at HOj ⊢
            clear hgj
            have c11 : Wj.cell? ⟨gj, 11, none⟩ = some (.int .u8 x.f4) := (blk_cell HOj.out 11).trans rfl
            cases hs : (x.f4 == 2) with
            | true =>
              have hs2 : (x.f4 != 2) = false := by unfold bne; rw [hs]; rfl
              have HE : Hid (idleQ (a ++ b) (j + 1) = idleQ (a ++ b) j) := Lib.hid (by rw [HST.out, hs]; simp)
              go_wp2
              go_roundw
              case rel => exact ⟨j + 1, by omega, by go_num, HBj, Lib.hid (by rw [HE.out]; exact HIj.out)⟩
              case measure => simp [intOf]; omega
            | false =>
              have hs2 : (x.f4 != 2) = true := by unfold bne; rw [hs]; rfl
              have HE : Hid (idleQ (a ++ b) (j + 1) = idleQ (a ++ b) j ++ [x]) := Lib.hid (by rw [HST.out, hs]; simp)
              have hldj := job_ld (x := x) (A := A10) (c := c10) HOj.out
              unfold jobC at hldj
              have HFo := Lib.hid (show Kd.FK k53 Wj (fun k => k < w6.heap.size) x [.int .i64 x.f0, .int .i64 x.f1, .int .i64 x.f2, .string x.f3.f0, .string x.f3.f1, .string x.f3.f2, .string x.f3.f3, .int .i64 x.f3.f4, .int .i64 x.f3.f5, .int .i64 x.f3.f6, .slice A10 x.f3.f7.length c10, .int .u8 x.f4, .int .i64 x.f5, .int .i64 x.f6, .int .i64 x.f7, .int .u32 x.f8, .int .i64 x.f9] from HFj.out)
              go_wp2_with (first | ((with_reducible refine gate_ (.load 53 (.tmp 10)) rfl ?_); refine wl_load 53 (.tmp 10) rfl rfl _ _ rfl hldj ?_) | ((with_reducible refine gate_builtin (b := .append) (xs := #[.tmp 66, .tmp 68]) rfl ?_); at_builtin; refine Kd.N_append k53 (w0 := w6) w6.heap.size rfl (.tmp 66) (.tmp 68) 29 53 (.agg #[.int .i64 0, .int .i64 0, .int .i64 0, .string ⟨#[]⟩, .string ⟨#[]⟩, .string ⟨#[]⟩, .string ⟨#[]⟩, .int .i64 0, .int .i64 0, .int .i64 0, .slice none 0 0, .int .u8 0, .int .i64 0, .int .i64 0, .int .i64 0, .int .u32 0, .int .i64 0]) 184 rfl Try.underlying29 infoJobZ rfl (by decide) (by decide) (.slice A8 n8 c8) (idleQ (a ++ b) j) x [.int .i64 x.f0, .int .i64 x.f1, .int .i64 x.f2, .string x.f3.f0, .string x.f3.f1, .string x.f3.f2, .string x.f3.f3, .int .i64 x.f3.f4, .int .i64 x.f3.f5, .int .i64 x.f3.f6, .slice A10 x.f3.f7.length c10, .int .u8 x.f4, .int .i64 x.f5, .int .i64 x.f6, .int .i64 x.f7, .int .u32 x.f8, .int .i64 x.f9] (fun _ => True) (fun k => k < w6.heap.size) rfl rfl HFo.out (fun k hk => ⟨trivial, fun e => by have := Kd.N_base HIj.out k e.symm; omega⟩) (fun _ _ => trivial) HIj.out HBj.out HBj.out.size (by have h1 := idle_len (a ++ b) j; have h2 := HN3.out; omega) ?_; intro v9 w9 ho hb _ _; have HI9 := Lib.hid ho; have HB9 := Lib.hid hb; clear ho hb) | fail)
              go_roundw
              case rel => exact ⟨j + 1, by omega, by go_num, HB9, Lib.hid (by rw [HE.out]; exact HI9.out)⟩
              case measure => simp [intOf]; omega
          · obtain rfl : n3 = j := by omega
            obtain ⟨A4, c4, hv4⟩ := Kd.N_slice HId.out
            have HI := Lib.hid (show Kd.C k53 wr A4 (idleQ (a ++ b) (a ++ b).length).length (idleQ (a ++ b) (a ++ b).length) ∧ (idleQ (a ++ b) (a ++ b).length).length ≤ c4 by have h1 := HId.out; rw [hv4] at h1; have h2 := Kd.N_reads' h1; rw [HN3.out] at h2; exact ⟨h2.2.2, h2.2.1⟩)
            obtain ⟨n4, hn4⟩ : ∃ n, n = (idleQ (a ++ b) (a ++ b).length).length := ⟨_, rfl⟩
            rw [HN3.out, ← hn4] at hv4
            subst hv4
            have HN4 := Lib.hid hn4
            have hn4l : n4 ≤ 200 := by have h1 := idle_len (a ++ b) (a ++ b).length; have h2 := HN3.out; omega
            have HRc3 := Lib.hid (Kd.N_reads' HFc.out)
            have H : Hid (AQ w wr g (cfgV A0 l0.length c0 B1 l1.length d1 B2 ac.length d2 B3 q.length d3 pl) q ac A1 a A2 b Ac A4) := Lib.hid ⟨below_then HBw.out HBw.out.size HBr.out, (HBr.out.block g (blk_lt HO6.out)).trans HO6.out, (HQ.out.below HBw.out).below HBr.out, Kd.C_below (Kd.C_below HA.out.1 HBw.out) HBr.out, Kd.C_below (Kd.C_below HBb.out.1 HBw.out) HBr.out, Kd.C_below HRc3.out.2.2 HBr.out, HI.out.1⟩
            have HCc := Lib.hid (show (a ++ b).length ≤ cc ∧ (idleQ (a ++ b) (a ++ b).length).length ≤ c4 from ⟨by have := HRc3.out.2.1; have := HN3.out; omega, HI.out.2⟩)
            have HTm := Lib.hid (show Tame a ∧ Tame b ∧ Tame (a ++ b) ∧ Tame (idleQ (a ++ b) (a ++ b).length) from ⟨⟨HTA.out, by have := HN.out; omega⟩, ⟨HTB.out, by have := HN.out; omega⟩, ⟨fun x hx => (List.mem_append.1 hx).elim (HTA.out x) (HTB.out x), by have := HN3.out; omega⟩, ⟨fun x hx => (List.mem_append.1 (idle_mem _ _ x hx).1).elim (HTA.out x) (HTB.out x), by have := HN4.out; omega⟩⟩)
            have hac := Lib.hid (show ac.length ≤ 16 ∧ rightA ac = true from by have h1 := HR.out; unfold rightQ at h1; rw [Bool.and_eq_true] at h1; exact ⟨((right_iff ac).1 h1.2).2.2, h1.2⟩)
            clear HId HI HBw HRc3 HFc hn4 HO6 HBr HTA HTB HTa HTb HQ HB3 HB6 HB hn3l
            obtain ⟨W0, hW0⟩ : ∃ x, x = wr := ⟨_, rfl⟩
            rw [← hW0] at H ⊢
            clear hW0
            have c2 : W0.cell? ⟨g, 2, none⟩ = some (.slice B2 ac.length d2) := (blk_cell H.out.box 2).trans rfl
            obtain ⟨n5, hn5⟩ : ∃ n, n = ac.length := ⟨_, rfl⟩
            rw [← hn5] at c2
            have hn5l : n5 ≤ 16 := by rw [hn5]; exact hac.out.1
            have HN5 := Lib.hid hn5
            clear hn5
            go_wp2_with fail
            go_loopw [74] (fun v74 wr2 => ∃ i : Nat, i ≤ n5 ∧ v74 = .int .i64 i ∧ Hid (AQ w wr2 g (cfgV A0 l0.length c0 B1 l1.length d1 B2 ac.length d2 B3 q.length d3 pl) q ac A1 a A2 b Ac A4)) (fun v74 _ => n5 - (intOf v74).toNat)
            case atStart => exact ⟨0, Nat.zero_le _, rfl, H⟩
            case round =>
              clear H c2
              obtain ⟨i, hi, rfl, H⟩ := hrel
              by_cases hlt2 : i < n5
              · skip
                have hil : i < ac.length := by have := HN5.out; omega
                obtain ⟨ad, csx, e1, hK, hld0⟩ := load_mid (t := 57) Try.underlying57 rfl (by kernel_rfl) (Cfg.rowA H.out.cfg).1 i hil
                obtain ⟨x, hx⟩ : ∃ x, x = ac[i] := ⟨_, rfl⟩
                rw [← hx] at hK
                obtain rfl := k57_open hK
                have HFd := Lib.hid (show (findA ac x.f0).2 = true from found_mem.2 ⟨i, hil, by rw [hx]⟩)
                rw [show (k57).sz = 3 from rfl] at hld0
                have hld : (Instr.loadAt 57 (.pointer (some (ad.add (i * 3))))).run Try.prog wr = .ok (.agg #[.string x.f0, .string x.f1, .int .i64 x.f2]) wr := hld0 wr (Below.refl _ _)
                clear hld0 hK hx hil
                cases e1
                go_upto_region 14 with ((with_reducible refine gate_ (.load 57 (.tmp 76)) rfl ?_); refine wl_load 57 (.tmp 76) rfl rfl _ _ rfl hld ?_)
                have HX : Hid ((wr.alloc (.cells #[.string x.f0, .string x.f1, .int .i64 x.f2] 57)).heap[wr.heap.size]? = some (.cells #[.string x.f0, .string x.f1, .int .i64 x.f2] 57 (0, 0))) := Lib.hid (heap_alloc_new wr _)
                have H0 := Lib.hid (H.out.below (below_alloc (Below.refl _ _) (.cells #[.string x.f0, .string x.f1, .int .i64 x.f2] 57)))
                clear hld H
                generalize wr.alloc _ = V0 at HX H0 ⊢
                obtain ⟨gx, hgx⟩ : ∃ y, y = wr.heap.size := ⟨_, rfl⟩
                rw [← hgx] at HX ⊢
                clear hgx
                have HC0 := Lib.hid (cores_at H0.out.cfg HR.out hac.out.1 a n1 HN.out.1 A1 c1 x.f0 H0.out.ra HA.out.2.1 HTm.out.1 HFd.out)
                have cx0 : V0.cell? ⟨gx, 0, none⟩ = some (.string x.f0) := (blk_cell HX.out 0).trans rfl
                go_wp2_with (first | ((with_reducible refine gate_ (.load 28 (.tmp 3)) rfl ?_); refine wl_load 28 (.tmp 3) rfl rfl _ _ rfl (cfg_ld H0.out.box) ?_) | fail)
                refine HC0.out.mono ?_
                rintro e V1 ⟨rfl, hb⟩
                have H1 := Lib.hid (H0.out.below hb)
                have HX1 := Lib.hid ((hb.block gx (blk_lt HX.out)).trans HX.out)
                clear hb HC0 H0 HX cx0
                have HC1 := Lib.hid (cores_at H1.out.cfg HR.out hac.out.1 b n2 HN.out.2 A2 c2 x.f0 H1.out.rb HBb.out.2.1 HTm.out.2.1 HFd.out)
                have cx1 : V1.cell? ⟨gx, 0, none⟩ = some (.string x.f0) := (blk_cell HX1.out 0).trans rfl
                go_wp2_with (first | ((with_reducible refine gate_ (.load 28 (.tmp 3)) rfl ?_); refine wl_load 28 (.tmp 3) rfl rfl _ _ rfl (cfg_ld H1.out.box) ?_) | fail)
                refine HC1.out.mono ?_
                rintro e V2 ⟨rfl, hb⟩
                have H2 := Lib.hid (H1.out.below hb)
                have HX2 := Lib.hid ((hb.block gx (blk_lt HX1.out)).trans HX1.out)
                clear hb HC1 H1 HX1 cx1
                have HC2 := Lib.hid (cores_at H2.out.cfg HR.out hac.out.1 (a ++ b) n3 HN3.out Ac cc x.f0 H2.out.rc HCc.out.1 HTm.out.2.2.1 HFd.out)
                have cx2 : V2.cell? ⟨gx, 0, none⟩ = some (.string x.f0) := (blk_cell HX2.out 0).trans rfl
                go_wp2_with (first | ((with_reducible refine gate_ (.load 28 (.tmp 3)) rfl ?_); refine wl_load 28 (.tmp 3) rfl rfl _ _ rfl (cfg_ld H2.out.box) ?_) | fail)
                refine HC2.out.mono ?_
                rintro e V3 ⟨rfl, hb⟩
                have H3 := Lib.hid (H2.out.below hb)
                have HX3 := Lib.hid ((hb.block gx (blk_lt HX2.out)).trans HX2.out)
                clear hb HC2 H2 HX2 cx2
                have HC3 := Lib.hid (cores_at H3.out.cfg HR.out hac.out.1 (idleQ (a ++ b) (a ++ b).length) n4 HN4.out A4 c4 x.f0 H3.out.rd HCc.out.2 HTm.out.2.2.2 HFd.out)
                have cx3 : V3.cell? ⟨gx, 0, none⟩ = some (.string x.f0) := (blk_cell HX3.out 0).trans rfl
                go_wp2_with (first | ((with_reducible refine gate_ (.load 28 (.tmp 3)) rfl ?_); refine wl_load 28 (.tmp 3) rfl rfl _ _ rfl (cfg_ld H3.out.box) ?_) | fail)
                refine HC3.out.mono ?_
                rintro e V4 ⟨rfl, hb⟩
                have H4 := Lib.hid (H3.out.below hb)
                have HX4 := Lib.hid ((hb.block gx (blk_lt HX3.out)).trans HX3.out)
                clear hb HC3 H3 HX3 cx3
                have hS := sum_app (fun s => hasB (belowA ac x.f0).1 s.f1) a b
                have hI := sum_idle (fun s => hasB (belowA ac x.f0).1 s.f1) (idleQ (a ++ b) (a ++ b).length) (fun y hy => (idle_mem _ _ y hy).2)
                have hb1 := sum_bound (fun s => hasB (belowA ac x.f0).1 s.f1) HTm.out.1
                have hb2 := sum_bound (fun s => hasB (belowA ac x.f0).1 s.f1) HTm.out.2.1
                change usedQ ac (a ++ b) x.f0 = usedQ ac a x.f0 + usedQ ac b x.f0 at hS
                change usedQ ac (idleQ (a ++ b) (a ++ b).length) x.f0 = 0 at hI
                change 0 ≤ usedQ ac a x.f0 ∧ usedQ ac a x.f0 ≤ 4096000000 at hb1
                change 0 ≤ usedQ ac b x.f0 ∧ usedQ ac b x.f0 ≤ 4096000000 at hb2
                rw [hS, hI]
                generalize usedQ ac a x.f0 = u1 at hb1 ⊢
                generalize usedQ ac b x.f0 = u2 at hb2 ⊢
                clear hS hI
                have v1 : IntKind.i64.wrap (u1 + u2) = u1 + u2 := by rw [IntKind.wrap_i64]; omega
                have v2 : wrap64 (u1 + u2) = u1 + u2 := by unfold wrap64; omega
                have v3 : ((u1 + u2) != (u1 + u2)) = false := by simp
                go_wp2
                go_roundw
                case rel => first | exact ⟨i + 1, by omega, by go_num, H4⟩ | ((repeat apply Exists.intro); exact ⟨⟨i + 1, by omega, by go_num, H4⟩, rfl⟩)
                case measure => simp [intOf]; omega
              · skip
                have hge : ¬ (i : Int) < (n5 : Int) := by omega
                clear hlt2
                obtain ⟨Wq, hWq⟩ : ∃ x, x = wr := ⟨_, rfl⟩
                rw [← hWq] at H ⊢
                clear hWq
                have c3 : Wq.cell? ⟨g, 3, none⟩ = some (.slice B3 q.length d3) := (blk_cell H.out.box 3).trans rfl
                obtain ⟨n6, hn6⟩ : ∃ n, n = q.length := ⟨_, rfl⟩
                rw [← hn6] at c3
                have hn6l : n6 ≤ 8 := by have h1 := HR.out; unfold rightQ at h1; rw [Bool.and_eq_true, Bool.and_eq_true, decide_eq_true_iff] at h1; omega
                have HN6 := Lib.hid hn6
                clear hn6
                go_wp2_with fail
                go_loopw [139] (fun v139 wr3 => ∃ i : Nat, i ≤ n6 ∧ v139 = .int .i64 i ∧ Hid (AQ w wr3 g (cfgV A0 l0.length c0 B1 l1.length d1 B2 ac.length d2 B3 q.length d3 pl) q ac A1 a A2 b Ac A4)) (fun v139 _ => n6 - (intOf v139).toNat)
                case atStart => exact ⟨0, Nat.zero_le _, rfl, H⟩
                case round =>
                  clear H c3
                  obtain ⟨i, hi, rfl, H⟩ := hrel
                  by_cases hlt3 : i < n6
                  · skip
                    have hil : i < q.length := by have := HN6.out; omega
                    obtain ⟨ad, csx, e1, hK, hld0⟩ := load_mid (t := 59) Try.underlying59 rfl (by kernel_rfl) (Cfg.rowQ H.out.cfg).1 i hil
                    obtain ⟨x, hx⟩ : ∃ x, x = q[i] := ⟨_, rfl⟩
                    rw [← hx] at hK
                    obtain rfl := k59_open hK
                    have HFd := Lib.hid (show q.any (isQ x.f0) = true from List.any_eq_true.2 ⟨x, by rw [hx]; exact List.getElem_mem hil, by unfold isQ; simp⟩)
                    rw [show (k59).sz = 4 from rfl] at hld0
                    have hld : (Instr.loadAt 59 (.pointer (some (ad.add (i * 4))))).run Try.prog wr = .ok (.agg #[.string x.f0, .int .i64 x.f1, .int .i64 x.f2, .int .i64 x.f3]) wr := hld0 wr (Below.refl _ _)
                    clear hld0 hK hx hil
                    cases e1
                    go_upto_region 24 with ((with_reducible refine gate_ (.load 59 (.tmp 141)) rfl ?_); refine wl_load 59 (.tmp 141) rfl rfl _ _ rfl hld ?_)
                    have HX : Hid ((wr.alloc (.cells #[.string x.f0, .int .i64 x.f1, .int .i64 x.f2, .int .i64 x.f3] 59)).heap[wr.heap.size]? = some (.cells #[.string x.f0, .int .i64 x.f1, .int .i64 x.f2, .int .i64 x.f3] 59 (0, 0))) := Lib.hid (heap_alloc_new wr _)
                    have H0 := Lib.hid (H.out.below (below_alloc (Below.refl _ _) (.cells #[.string x.f0, .int .i64 x.f1, .int .i64 x.f2, .int .i64 x.f3] 59)))
                    clear hld H
                    generalize wr.alloc _ = V0 at HX H0 ⊢
                    obtain ⟨gx, hgx⟩ : ∃ y, y = wr.heap.size := ⟨_, rfl⟩
                    rw [← hgx] at HX ⊢
                    clear hgx
                    have HC0 := Lib.hid (qos_at H0.out.cfg HR.out a n1 HN.out.1 A1 c1 x.f0 H0.out.ra HA.out.2.1 HTm.out.1 HFd.out)
                    have cx0 : V0.cell? ⟨gx, 0, none⟩ = some (.string x.f0) := (blk_cell HX.out 0).trans rfl
                    go_wp2_with (first | ((with_reducible refine gate_ (.load 28 (.tmp 3)) rfl ?_); refine wl_load 28 (.tmp 3) rfl rfl _ _ rfl (cfg_ld H0.out.box) ?_) | fail)
                    refine HC0.out.mono ?_
                    rintro e V1 ⟨rfl, hb⟩
                    have H1 := Lib.hid (H0.out.below hb)
                    have HX1 := Lib.hid ((hb.block gx (blk_lt HX.out)).trans HX.out)
                    clear hb HC0 H0 HX cx0
                    have HC1 := Lib.hid (qos_at H1.out.cfg HR.out b n2 HN.out.2 A2 c2 x.f0 H1.out.rb HBb.out.2.1 HTm.out.2.1 HFd.out)
                    have cx1 : V1.cell? ⟨gx, 0, none⟩ = some (.string x.f0) := (blk_cell HX1.out 0).trans rfl
                    go_wp2_with (first | ((with_reducible refine gate_ (.load 28 (.tmp 3)) rfl ?_); refine wl_load 28 (.tmp 3) rfl rfl _ _ rfl (cfg_ld H1.out.box) ?_) | fail)
                    refine HC1.out.mono ?_
                    rintro e V2 ⟨rfl, hb⟩
                    have H2 := Lib.hid (H1.out.below hb)
                    have HX2 := Lib.hid ((hb.block gx (blk_lt HX1.out)).trans HX1.out)
                    clear hb HC1 H1 HX1 cx1
                    have HC2 := Lib.hid (qos_at H2.out.cfg HR.out (a ++ b) n3 HN3.out Ac cc x.f0 H2.out.rc HCc.out.1 HTm.out.2.2.1 HFd.out)
                    have cx2 : V2.cell? ⟨gx, 0, none⟩ = some (.string x.f0) := (blk_cell HX2.out 0).trans rfl
                    go_wp2_with (first | ((with_reducible refine gate_ (.load 28 (.tmp 3)) rfl ?_); refine wl_load 28 (.tmp 3) rfl rfl _ _ rfl (cfg_ld H2.out.box) ?_) | fail)
                    refine HC2.out.mono ?_
                    rintro e V3 ⟨rfl, hb⟩
                    have H3 := Lib.hid (H2.out.below hb)
                    have HX3 := Lib.hid ((hb.block gx (blk_lt HX2.out)).trans HX2.out)
                    clear hb HC2 H2 HX2 cx2
                    have hS := sum_app (qosP x.f0) a b
                    have hM := num_app (qosP x.f0) a b
                    have hb1 := sum_bound (qosP x.f0) HTm.out.1
                    have hb2 := sum_bound (qosP x.f0) HTm.out.2.1
                    have hm1 := num_le (qosP x.f0) a
                    have hm2 := num_le (qosP x.f0) b
                    have hma := HTm.out.1.2
                    have hmb := HTm.out.2.1.2
                    rw [hS, hM]
                    generalize sumQ (qosP x.f0) a = u1 at hb1 ⊢
                    generalize sumQ (qosP x.f0) b = u2 at hb2 ⊢
                    generalize numQ (qosP x.f0) a = m1 at hm1 ⊢
                    generalize numQ (qosP x.f0) b = m2 at hm2 ⊢
                    clear hS hM
                    rw [show ((m1 + m2 : Nat) : Int) = (m1 : Int) + (m2 : Int) by omega]
                    have v1 : IntKind.i64.wrap (u1 + u2) = u1 + u2 := by rw [IntKind.wrap_i64]; omega
                    have v2 : wrap64 (u1 + u2) = u1 + u2 := by unfold wrap64; omega
                    have v3 : ((u1 + u2) != (u1 + u2)) = false := by simp
                    have v4 : IntKind.i64.wrap ((m1 : Int) + (m2 : Int)) = (m1 : Int) + (m2 : Int) := by rw [IntKind.wrap_i64]; omega
                    have v5 : wrap64 ((m1 : Int) + (m2 : Int)) = (m1 : Int) + (m2 : Int) := by unfold wrap64; omega
                    have v6 : (((m1 : Int) + (m2 : Int)) != ((m1 : Int) + (m2 : Int))) = false := by simp
                    clear hma hmb
                    go_wp2
                    go_roundw
                    case rel => first | exact ⟨i + 1, by omega, by go_num, H3⟩ | ((repeat apply Exists.intro); exact ⟨⟨i + 1, by omega, by go_num, H3⟩, rfl⟩)
                    case measure => simp [intOf]; omega
                  · skip
                    have hge3 : ¬ (i : Int) < (n6 : Int) := by omega
                    go_wp2_with fail
                    refine (awake15_calls _).mono ?_
                    rintro e wz ⟨rfl, hb⟩
                    have HBz := Lib.hid (below_then H.out.bel H.out.bel.size hb)
                    clear hb
                    go_wp2
                    go_ret
                    exact ⟨rfl, HBz.out⟩
end Go.Proofs.Ytcnobkcddgcifaa.PT
