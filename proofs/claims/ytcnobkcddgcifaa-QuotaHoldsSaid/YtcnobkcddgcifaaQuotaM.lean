/- quota.May, in plain Lean. (A part of the print PT.) -/
import Derived.Test.YtcnobkcddgcifaaPTx35
import Derived.Test.YtcnobkcddgcifaaQuotaC
set_option linter.unusedVariables false
set_option linter.unusedSimpArgs false
namespace Go.Proofs.Ytcnobkcddgcifaa.PT
open Go.RowKit Go.Proofs.YtcnobkcddgcifaaW.PrintWords Go.Proofs.YtcnobkcddgcifaaW.PrintLast Go.Proofs.YtcnobkcddgcifaaW.PrintMore Go.Proofs.Ytcnobkcddgcifaa.Gen Go.Proofs.Ytcnobkcddgcifaa.EvK
/-- Is a sum above a limit? -/
def aboveP (most a b : Int) : Bool := decide (0 ≤ most ∧ most < a + b)
theorem above_ev (m a b : Int) (ha : -4000000000000000000 ≤ a ∧ a ≤ 4000000000000000000) (hb : -4000000000000000000 ≤ b ∧ b ≤ 4000000000000000000) : Ev (fun k => quota_above.f k m [a, b]) (aboveP m a b) := by
  unfold quota_above.f
  have r0 : rd [a, b] 0 = a := rfl
  have r1 : rd [a, b] 1 = b := rfl
  have e0 : wrap64 (0 + a) = a := by unfold wrap64; omega
  have e1 : wrap64 (a + b) = a + b := by unfold wrap64; omega
  have i0 : wrap64 ((0 : Int) + 1) = 1 := by unfold wrap64; omega
  have i1 : wrap64 ((1 : Int) + 1) = 2 := by unfold wrap64; omega
  refine Ev.stp (fun k => by rw [quota_above.l0]) (Ev.pos (by simp) (Ev.pos (by decide) (Ev.pos (by simp) ?_)))
  rw [r0, e0, i0]
  refine Ev.stp (fun k => by rw [quota_above.l0]) (Ev.pos (by simp) (Ev.pos (by decide) (Ev.pos (by simp) ?_)))
  rw [r1, e1, i1]
  refine Ev.stp (fun k => by rw [quota_above.l0]) (Ev.neg (by simp) ?_)
  unfold aboveP
  by_cases h : m ≥ 0
  · exact Ev.pos h (Ev.one (by rw [Bool.eq_iff_iff, decide_eq_true_iff, decide_eq_true_iff]; omega))
  · exact Ev.neg h (Ev.one (by rw [decide_eq_false (by omega)]))
def limAt (ac : List S57) (name : ByteArray) : Int := (rd_T57 ac (findA ac name).1).f2
def overA (ac : List S57) (l : List S53) (more : Int) (name : ByteArray) : Bool := aboveP (limAt ac name) (usedQ ac l name) more
/-- Are a quality's limits exceeded by one more? -/
def overL (q : List S59) (l : List S53) (more : Int) (name : ByteArray) : Bool := aboveP (rd_T59 q (idxOf q (isQ name))).f2 (sumQ (qosP name) l) more || aboveP (rd_T59 q (idxOf q (isQ name))).f3 (numQ (qosP name) l : Nat) 1
def mayQ (q : List S59) (ac : List S57) (l : List S53) (s : S32) : Int :=
  if rightQ q ac = true then (if (pathA ac s.f1).2 = 0 ∧ 0 ≤ idxOf q (isQ s.f2) then (if (pathA ac s.f1).1.any (overA ac l (s.f4 * s.f5)) = true then 150 else (if overL q l (s.f4 * s.f5) s.f2 = true then 150 else 0)) else 141) else 2
theorem path_found {ac : List S57} (hr : rightA ac = true) (s : ByteArray) : ∀ a ∈ (pathA ac s).1, (findA ac a).2 = true := by
  intro a ha
  obtain ⟨T, h1, h2⟩ := (right_iff ac).1 hr
  unfold pathA at ha
  rw [if_pos hr] at ha
  cases hf : (findA ac s).2 with
  | false =>
    rw [hf] at ha
    cases ha
  | true =>
    obtain ⟨p, hp, he, _⟩ := found_at hf
    rw [hf, if_pos rfl, he] at ha
    simp only [Int.toNat_natCast] at ha
    rw [ups_eq hp] at ha
    rcases List.mem_cons.1 ha with h | h
    · exact found_mem.2 ⟨p, hp, h.symm⟩
    · obtain ⟨p', hp', _, h'⟩ := rest_names T (p + 1) p (by omega) hp a h
      exact found_mem.2 ⟨p', hp', h'.symm⟩
theorem path_len {ac : List S57} (hr : rightA ac = true) (s : ByteArray) : (pathA ac s).1.length ≤ 17 := by
  obtain ⟨T, h1, h2⟩ := (right_iff ac).1 hr
  unfold pathA
  rw [if_pos hr]
  cases hf : (findA ac s).2 with
  | false => rw [if_neg (by decide)]; exact Nat.zero_le _
  | true =>
    obtain ⟨p, hp, he, _⟩ := found_at hf
    rw [if_pos rfl, he]
    simp only [Int.toNat_natCast]
    have := ups_len T hp
    omega
theorem sum_bound (p : S32 → Bool) {l : List S53} (T : Tame l) : 0 ≤ sumQ p l ∧ sumQ p l ≤ 4096000000 := by
  have h1 := sum_range p l T.1
  have h2 := T.2
  omega
theorem may_l0 (ci : List Int) (ps : List S87) (ac : List S57) (q : List S59) (pl : Int) (l : List S53) (s : S32) (ht : tameL ac l = true) (more : Int) (hm : 0 ≤ more ∧ more ≤ 4096) (P : List ByteArray) (hP : ∀ a ∈ P, (findA ac a).2 = true) (hPl : P.length ≤ 17) (hrq : rightQ q ac = true) (hat : q.any (isQ s.f2) = true) :
    ∀ d j, P.length - j = d → j ≤ P.length → Ev (fun k => quota_May.l0 k l (idxOf q (isQ s.f2)) more P (P.length : Int) (j : Int) ci ps ac q pl s.f0 s.f1 s.f2 s.f3 s.f4 s.f5 s.f6 s.f7) (if (P.drop j).any (overA ac l more) = true then 150 else (if overL q l more s.f2 = true then 150 else 0))
  | 0, j, hd, hj => by
    have T := (tameL_iff.1 ht).1
    obtain ⟨i, hi, he⟩ := idxOf_some hat
    have hb := sum_bound (qosP s.f2) T
    have hn := num_le (qosP s.f2) l
    have hl := T.2
    have hq : quota_Qos.f ci ps ac q pl l s.f2 = some (sumQ (qosP s.f2) l, ((numQ (qosP s.f2) l : Nat) : Int), 0) := by
      unfold quota_Qos.f qosQ
      rw [if_pos ht, if_pos hrq, if_pos hat]
    rw [show (P.drop j).any (overA ac l more) = false by rw [List.drop_of_length_le (by omega)]; rfl, if_neg (by decide)]
    refine Ev.stp (fun k => by rw [quota_May.l0]) (Ev.neg (by omega) (Ev.bnd (Ev.const hq) ?_))
    refine Ev.pos (by omega) (Ev.pos (by omega) (Ev.bnd (above_ev (rd_T59 q (idxOf q (isQ s.f2))).f2 (sumQ (qosP s.f2) l) more (by omega) (by omega)) ?_))
    unfold overL
    cases h1 : aboveP (rd_T59 q (idxOf q (isQ s.f2))).f2 (sumQ (qosP s.f2) l) more with
    | true => exact Ev.pos rfl (Ev.one (by simp))
    | false =>
      refine Ev.neg (by decide) (Ev.bnd (above_ev (rd_T59 q (idxOf q (isQ s.f2))).f3 ((numQ (qosP s.f2) l : Nat) : Int) 1 (by omega) (by omega)) ?_)
      cases h2 : aboveP (rd_T59 q (idxOf q (isQ s.f2))).f3 (numQ (qosP s.f2) l : Nat) 1 with
      | true => exact Ev.pos rfl (Ev.one (by simp))
      | false => exact Ev.neg (by decide) (Ev.one (by simp))
  | d + 1, j, hd, hj => by
    have hlt : j < P.length := by omega
    have T := (tameL_iff.1 ht).1
    obtain ⟨p, hp, he, _⟩ := found_at (hP P[j] (List.getElem_mem hlt))
    have hb := sum_bound (fun t => hasB (belowA ac P[j]).1 t.f1) T
    have hu : quota_used.f ci ps ac q pl l P[j] = some (usedQ ac l P[j]) := by
      unfold quota_used.f
      rw [if_pos ht]
    have hub : 0 ≤ usedQ ac l P[j] ∧ usedQ ac l P[j] ≤ 4096000000 := hb
    rw [drop_any P _ j hlt]
    refine Ev.stp (fun k => by rw [quota_May.l0]) (Ev.pos (by omega) (Ev.pos (by omega) (Ev.pos (by omega) ?_)))
    rw [rdB P j hlt]
    refine Ev.bnd (a := findA ac P[j]) (Ev.const rfl) ?_
    rw [he]
    refine Ev.pos (by simp only; omega) (Ev.pos (by simp only; omega) (Ev.bnd (Ev.const hu) (Ev.bnd (above_ev (rd_T57 ac (p : Int)).f2 (usedQ ac l P[j]) more (by omega) (by omega)) ?_)))
    have hov : overA ac l more P[j] = aboveP (rd_T57 ac (p : Int)).f2 (usedQ ac l P[j]) more := by unfold overA limAt; rw [he]
    rw [hov]
    cases h1 : aboveP (rd_T57 ac (p : Int)).f2 (usedQ ac l P[j]) more with
    | true => exact Ev.pos rfl (Ev.one (by simp))
    | false =>
      refine Ev.neg (by decide) ?_
      rw [wr1 (by omega), Bool.false_or]
      exact may_l0 ci ps ac q pl l s ht more hm P hP hPl hrq hat d (j + 1) (by omega) (by omega)
theorem may_ev (ci : List Int) (ps : List S87) (ac : List S57) (q : List S59) (pl : Int) (hq : q.length ≤ 9223372036854775807) (l : List S53) (s : S32) (ht : tameL ac l = true) (hs : tameS s = true) : Ev (fun k => quota_May.f k ci ps ac q pl l s.f0 s.f1 s.f2 s.f3 s.f4 s.f5 s.f6 s.f7) (mayQ q ac l s) := by
  unfold quota_May.f mayQ
  refine Ev.bnd (right_ev ci ps ac q pl hq) ?_
  by_cases hr : rightQ q ac = true
  case neg => rw [if_neg hr]; exact Ev.neg hr (Ev.one rfl)
  rw [if_pos hr]
  have hra : rightA ac = true := by
    unfold rightQ at hr
    rw [Bool.and_eq_true] at hr
    exact hr.2
  refine Ev.pos hr (Ev.bnd (path_ev ac s.f1) (Ev.bnd (a := idxOf q (isQ s.f2)) (Ev.const rfl) ?_))
  have hge := idxOf_ge q (isQ s.f2)
  have hts := (tame_iff s).1 hs
  have hmr := mul_range hts.1 hts.2.1 hts.2.2.1 hts.2.2.2
  by_cases hp : (pathA ac s.f1).2 = 0
  case neg =>
    rw [if_neg (fun h => hp h.1)]
    exact Ev.neg hp (Ev.stp (fun k => by rw [quota_May.j0]) (Ev.pos rfl (Ev.one rfl)))
  refine Ev.pos hp (Ev.stp (fun k => by rw [quota_May.j0]) ?_)
  by_cases hi : idxOf q (isQ s.f2) < 0
  · rw [if_neg (by omega)]
    exact Ev.pos (decide_eq_true hi) (Ev.one rfl)
  · rw [if_pos ⟨hp, by omega⟩]
    refine Ev.neg (by rw [decide_eq_false hi]; decide) ?_
    have hw : wrap64 (s.f4 * s.f5) = s.f4 * s.f5 := by
      obtain ⟨m, hm⟩ : ∃ m, m = s.f4 * s.f5 := ⟨_, rfl⟩
      rw [← hm] at hmr ⊢
      unfold wrap64
      omega
    rw [hw]
    exact may_l0 ci ps ac q pl l s ht (s.f4 * s.f5) hmr _ (path_found hra s.f1) (path_len hra s.f1) hr (by rw [← hge]; exact decide_eq_true (by omega)) _ 0 rfl (Nat.zero_le _)
theorem cmay_calls {w : World} {cs : Array Value} {q : List S59} {ac : List S57} (h : Cfg w cs q ac) (has : ac.length < 9000000000000000000) (l : List S53) (A : Option Addr) (c : Nat) (hr : Kd.C k53 w A l.length l) (hc : l.length ≤ c) (T : Tame l) (s : S32) (hs : tameS s = true) (A7 : Option Addr) (c7 : Nat) (h7 : Kd.C k112 w A7 s.f7.length s.f7) (h7c : s.f7.length ≤ c7) :
    Calls Try.prog 17 #[.agg cs, .slice A l.length c, .agg (specC s A7 c7)] w fun e w' => e = .returned (.int .i64 (mayQ q ac l s)) ∧ Below w.heap.size w w' := by
  obtain ⟨A0, c0, l0, A1, c1, l1, A2, c2, A3, c3, pl, rfl, h0, h1, h2, h3, h4, h5, h6, hh⟩ := h.is
  obtain ⟨k, hk⟩ := Ev.the (may_ev l0 l1 ac q pl h6.2.1 l s (tameL_iff.2 ⟨T, has⟩) hs)
  exact quota_May.calls k A0 c0 l0 A1 c1 l1 A2 c2 ac A3 c3 q pl A c l s.f0 s.f1 s.f2 s.f3 s.f4 s.f5 s.f6 A7 c7 s.f7 (mayQ q ac l s) w h0 h1 h2 h3 h4 h5 h6 hh hr hc h7 h7c hk
end Go.Proofs.Ytcnobkcddgcifaa.PT
