/- Nobody is above a limit, in plain Lean: what keeps it, and within says so. (A part of the print PT.) -/
import Derived.Test.YtcnobkcddgcifaaPTx37
import Derived.Test.YtcnobkcddgcifaaQuotaM
set_option linter.unusedVariables false
set_option linter.unusedSimpArgs false
namespace Go.Proofs.Ytcnobkcddgcifaa.PT
open Go.RowKit Go.Proofs.YtcnobkcddgcifaaW.PrintWords Go.Proofs.YtcnobkcddgcifaaW.PrintLast Go.Proofs.YtcnobkcddgcifaaW.PrintMore Go.Proofs.Ytcnobkcddgcifaa.Gen Go.Proofs.Ytcnobkcddgcifaa.EvK
/-- Nobody is above a limit. -/
structure Fine (q : List S59) (ac : List S57) (L : List S53) : Prop where
  right : rightQ q ac = true
  tame : Tame L
  acc : ∀ x ∈ ac, 0 ≤ x.f2 → usedQ ac L x.f0 ≤ x.f2
  qos : ∀ x ∈ q, (0 ≤ x.f2 → sumQ (qosP x.f0) L ≤ x.f2) ∧ (0 ≤ x.f3 → ((numQ (qosP x.f0) L : Nat) : Int) ≤ x.f3)
theorem rightQ_iff {q : List S59} {ac : List S57} : rightQ q ac = true ↔ allQ q q.length = true ∧ (1 ≤ q.length ∧ q.length ≤ 8) ∧ rightA ac = true := by
  unfold rightQ
  rw [Bool.and_eq_true, Bool.and_eq_true, decide_eq_true_iff, and_assoc]
theorem sum_mono {p p' : S32 → Bool} (h : ∀ s, p s = true → p' s = true) : ∀ l : List S53, (∀ x ∈ l, tameS x.f3 = true) → sumQ p l ≤ sumQ p' l
  | [], _ => Int.le_refl _
  | x :: l, ht => by
    have e1 : sumQ p (x :: l) = oneQ p x + sumQ p l := by unfold sumQ; rw [List.map_cons, List.sum_cons]
    have e2 : sumQ p' (x :: l) = oneQ p' x + sumQ p' l := by unfold sumQ; rw [List.map_cons, List.sum_cons]
    have h1 := sum_mono h l (fun y hy => ht y (List.mem_cons_of_mem _ hy))
    have h2 := one_range p' (ht x (List.mem_cons_self ..))
    have h3 : oneQ p x ≤ oneQ p' x := by
      by_cases hp : hit p x = true
      · have hp' : hit p' x = true := by
          unfold hit at hp ⊢
          rw [Bool.and_eq_true] at hp ⊢
          exact ⟨hp.1, h _ hp.2⟩
        unfold oneQ
        rw [if_pos hp, if_pos hp']
        exact Int.le_refl _
      · have : oneQ p x = 0 := by unfold oneQ; rw [if_neg hp]
        omega
    omega
theorem ups_trans {l : List S57} (T : TreeOK l) : ∀ n i', i' < n → i' < l.length → ∀ i (hi : i < l.length), l[i].f0 ∈ upsA l i' → ∀ s ∈ upsA l i, s ∈ upsA l i'
  | 0, _, h, _, _, _, _, _, _ => absurd h (Nat.not_lt_zero _)
  | n + 1, i', hn, hi', i, hi, hm, s, hs => by
    rw [ups_eq hi'] at hm
    rcases List.mem_cons.1 hm with h | h
    · obtain rfl := tree_apart T hi hi' h
      exact hs
    · by_cases he : l[i'].f1.toList = []
      · rw [rest_top _ hi' he] at h
        cases h
      · obtain ⟨p, hp, h1, h2, h3⟩ := par_lt T hi' he
        have hr := rest_step T hi' hp h1 he h2
        rw [hr] at h
        rw [ups_eq hi', hr]
        exact List.mem_cons_of_mem _ (ups_trans T n p (by omega) hp i hi h s hs)
theorem below_iff {ac : List S57} (hr : rightA ac = true) {a : ByteArray} (hf : (findA ac a).2 = true) (s : ByteArray) : hasB (belowA ac a).1 s = true ↔ ∃ i, ∃ hi : i < ac.length, hasB (upsA ac i) a = true ∧ ac[i].f0 = s := by
  have e : belowA ac a = (belA ac a ac.length, 0) := by unfold belowA; rw [if_pos hr, if_pos hf]
  rw [e, hasB_iff, belA_mem ac a s _ (Nat.le_refl _)]
  exact ⟨fun ⟨i, hi, _, h⟩ => ⟨i, hi, h⟩, fun ⟨i, hi, h⟩ => ⟨i, hi, hi, h⟩⟩
theorem below_below {ac : List S57} (hr : rightA ac = true) {a b : ByteArray} (hb : b ∈ (belowA ac a).1) : (findA ac b).2 = true ∧ ∀ s, hasB (belowA ac b).1 s = true → hasB (belowA ac a).1 s = true := by
  obtain ⟨T, _, _⟩ := (right_iff ac).1 hr
  have hf : (findA ac a).2 = true := by
    cases h : (findA ac a).2 with
    | true => rfl
    | false =>
      unfold belowA at hb
      rw [if_pos hr, h, if_neg (by decide)] at hb
      cases hb
  obtain ⟨i, hi, h1, h2⟩ := (below_iff hr hf b).1 ((hasB_iff _ _).2 hb)
  have hfb : (findA ac b).2 = true := found_mem.2 ⟨i, hi, h2⟩
  refine ⟨hfb, fun s hs => ?_⟩
  obtain ⟨i', hi', h3, h4⟩ := (below_iff hr hfb s).1 hs
  refine (below_iff hr hf s).2 ⟨i', hi', ?_, h4⟩
  rw [hasB_iff] at h1 h3 ⊢
  exact ups_trans T (i' + 1) i' (by omega) hi' i hi (by rw [h2]; exact h3) a h1
theorem on_path {ac : List S57} (hr : rightA ac = true) {a s : ByteArray} (hf : (findA ac a).2 = true) (h : hasB (belowA ac a).1 s = true) : a ∈ (pathA ac s).1 := by
  obtain ⟨T, _, _⟩ := (right_iff ac).1 hr
  obtain ⟨i, hi, h1, h2⟩ := (below_iff hr hf s).1 h
  have e : pathA ac s = (upsA ac i, 0) := by
    unfold pathA
    rw [if_pos hr, find_self T hi h2, if_pos rfl, Int.toNat_natCast]
  rw [e]
  exact (hasB_iff _ _).1 h1
theorem cores_f (ci : List Int) (ps : List S87) (ac : List S57) (q : List S59) (pl : Int) (l : List S53) (a : ByteArray) (ht : tameL ac l = true) (hr : rightQ q ac = true) (hf : (findA ac a).2 = true) : quota_Cores.f ci ps ac q pl l a = some (usedQ ac l a, 0) := by
  unfold quota_Cores.f coresQ
  rw [if_pos ht, if_pos hr, if_pos hf]
theorem qos_f (ci : List Int) (ps : List S87) (ac : List S57) (q : List S59) (pl : Int) (l : List S53) (a : ByteArray) (ht : tameL ac l = true) (hr : rightQ q ac = true) (hf : q.any (isQ a) = true) : quota_Qos.f ci ps ac q pl l a = some (sumQ (qosP a) l, ((numQ (qosP a) l : Nat) : Int), 0) := by
  unfold quota_Qos.f qosQ
  rw [if_pos ht, if_pos hr, if_pos hf]
section
variable {ci : List Int} {ps : List S87} {ac : List S57} {q : List S59} {pl : Int} {L : List S53}
theorem within_l2 (h : Fine q ac L) (ht : tameL ac L = true) : ∀ d j, q.length - j = d → j ≤ q.length → Ev (fun k => musterlaw15_within.l2 k L q (q.length : Int) (j : Int) ci ps ac q pl) true
  | 0, j, hd, hj => Ev.stp (fun k => by rw [musterlaw15_within.l2]) (Ev.neg (by omega) (Ev.one rfl))
  | d + 1, j, hd, hj => by
    have hlt : j < q.length := by omega
    have h8 := (rightQ_iff.1 h.right).2.1
    refine Ev.stp (fun k => by rw [musterlaw15_within.l2]) (Ev.pos (by omega) (Ev.pos (by omega) (Ev.pos (by omega) ?_)))
    rw [rdQ q j hlt, qos_f ci ps ac q pl L q[j].f0 ht h.right (List.any_eq_true.2 ⟨q[j], List.getElem_mem hlt, by unfold isQ; simp⟩)]
    obtain ⟨hs, hn⟩ := h.qos q[j] (List.getElem_mem hlt)
    have hgo := within_l2 h ht d (j + 1) (by omega) (by omega)
    refine Ev.sbnd (Ev.pos rfl ?_)
    rw [wr1 (by omega)]
    by_cases h1 : q[j].f2 ≥ 0
    · refine Ev.pos h1 (Ev.neg (by have := hs h1; simp only; omega) ?_)
      by_cases h2 : q[j].f3 ≥ 0
      · exact Ev.pos h2 (Ev.neg (by have := hn h2; simp only; omega) hgo)
      · exact Ev.neg h2 hgo
    · refine Ev.neg h1 ?_
      by_cases h2 : q[j].f3 ≥ 0
      · exact Ev.pos h2 (Ev.neg (by have := hn h2; simp only; omega) hgo)
      · exact Ev.neg h2 hgo
theorem within_l1 (h : Fine q ac L) (ht : tameL ac L = true) (a : ByteArray) (i : Int) (n : Int) (hgo : Ev (fun k => musterlaw15_within.l0 k L ac n (wrap64 (i + 1)) ci ps ac q pl) true) (B : List ByteArray) (hB : B.length ≤ 16) (hall : ∀ b ∈ B, (findA ac b).2 = true ∧ usedQ ac L b ≤ usedQ ac L a) :
    ∀ d j, B.length - j = d → j ≤ B.length → Ev (fun k => musterlaw15_within.l1 k L (usedQ ac L a) 0 ac n i B (B.length : Int) (j : Int) ci ps ac q pl) true
  | 0, j, hd, hj => Ev.stp (fun k => by rw [musterlaw15_within.l1]) (Ev.neg (by omega) (Ev.pos rfl hgo))
  | d + 1, j, hd, hj => by
    have hlt : j < B.length := by omega
    obtain ⟨h1, h2⟩ := hall B[j] (List.getElem_mem hlt)
    refine Ev.stp (fun k => by rw [musterlaw15_within.l1]) (Ev.pos (by omega) (Ev.pos (by omega) (Ev.pos (by omega) ?_)))
    rw [rdB B j hlt, cores_f ci ps ac q pl L B[j] ht h.right h1]
    refine Ev.sbnd (Ev.pos rfl (Ev.neg (by simp only; omega) ?_))
    rw [wr1 (by omega)]
    exact within_l1 h ht a i n hgo B hB hall d (j + 1) (by omega) (by omega)
theorem within_l0 (h : Fine q ac L) (ht : tameL ac L = true) : ∀ d j, ac.length - j = d → j ≤ ac.length → Ev (fun k => musterlaw15_within.l0 k L ac (ac.length : Int) (j : Int) ci ps ac q pl) true
  | 0, j, hd, hj => by
    refine Ev.stp (fun k => by rw [musterlaw15_within.l0]) (Ev.neg (by omega) ?_)
    exact within_l2 h ht _ 0 rfl (Nat.zero_le _)
  | d + 1, j, hd, hj => by
    have hlt : j < ac.length := by omega
    have hra := (rightQ_iff.1 h.right).2.2
    obtain ⟨T, h1, h16⟩ := (right_iff ac).1 hra
    have hf : (findA ac ac[j].f0).2 = true := found_mem.2 ⟨j, hlt, rfl⟩
    have hgo := within_l0 h ht d (j + 1) (by omega) (by omega)
    rw [show (((j + 1 : Nat) : Int)) = wrap64 ((j : Int) + 1) by unfold wrap64; omega] at hgo
    have hbl : (belowA ac ac[j].f0).2 = 0 := by unfold belowA; rw [if_pos hra, if_pos hf]
    have hj1 : Ev (fun k => musterlaw15_within.j1 k L (usedQ ac L ac[j].f0) ac (ac.length : Int) (j : Int) false ci ps ac q pl ac[j].f0 ac[j].f1 ac[j].f2) true := by
      refine Ev.stp (fun k => by rw [musterlaw15_within.j1]) (Ev.neg (by decide) (Ev.bnd (below_ev ac ac[j].f0) ?_))
      have hB16 := belowA_len ac ac[j].f0
      have hall : ∀ b ∈ (belowA ac ac[j].f0).1, (findA ac b).2 = true ∧ usedQ ac L b ≤ usedQ ac L ac[j].f0 := fun b hb => by
        obtain ⟨h2, h3⟩ := below_below hra hb
        exact ⟨h2, sum_mono (fun s hs => h3 s.f1 hs) L h.tame.1⟩
      have := within_l1 (ci := ci) (ps := ps) (pl := pl) h ht ac[j].f0 (j : Int) (ac.length : Int) hgo (belowA ac ac[j].f0).1 (by omega) hall _ 0 rfl (Nat.zero_le _)
      rw [hbl]
      exact this
    refine Ev.stp (fun k => by rw [musterlaw15_within.l0]) (Ev.pos (by omega) (Ev.pos (by omega) (Ev.pos (by omega) ?_)))
    rw [rdA ac j hlt, cores_f ci ps ac q pl L ac[j].f0 ht h.right hf]
    refine Ev.sbnd (Ev.pos rfl ?_)
    by_cases h2 : ac[j].f2 ≥ 0
    · have h3 := h.acc ac[j] (List.getElem_mem hlt) h2
      refine Ev.pos h2 ?_
      rw [show decide ((usedQ ac L ac[j].f0, (0 : Int)).1 > ac[j].f2) = false from decide_eq_false (by simp only; omega)]
      exact hj1
    · exact Ev.neg h2 hj1
theorem within_ev (h : Fine q ac L) : Ev (fun k => musterlaw15_within.f k ci ps ac q pl L) true := by
  have h16 := ((right_iff ac).1 (rightQ_iff.1 h.right).2.2).2.2
  exact within_l0 h (tameL_iff.2 ⟨h.tame, by omega⟩) _ 0 rfl (Nat.zero_le _)
end
theorem within_calls {w : World} {cs : Array Value} {q : List S59} {ac : List S57} (h : Cfg w cs q ac) (L : List S53) (A : Option Addr) (c : Nat) (hr : Kd.C k53 w A L.length L) (hc : L.length ≤ c) (hF : Fine q ac L) :
    Calls Try.prog 21 #[.agg cs, .slice A L.length c] w fun e w' => e = .returned (.bool true) ∧ Below w.heap.size w w' := by
  obtain ⟨A0, c0, l0, A1, c1, l1, A2, c2, A3, c3, pl, rfl, h0, h1, h2, h3, h4, h5, h6, hh⟩ := h.is
  obtain ⟨k, hk⟩ := Ev.the (within_ev (ci := l0) (ps := l1) (pl := pl) hF)
  exact musterlaw15_within.calls k A0 c0 l0 A1 c1 l1 A2 c2 ac A3 c3 q pl A c L true w h0 h1 h2 h3 h4 h5 h6 hh hr hc hk
/-- Fewer, or less, of all. -/
theorem Fine.less {q : List S59} {ac : List S57} {L M : List S53} (h : Fine q ac L) (T : Tame M) (hs : ∀ p, sumQ p M ≤ sumQ p L) (hn : ∀ p, numQ p M ≤ numQ p L) : Fine q ac M :=
  ⟨h.right, T, fun x hx h0 => Int.le_trans (hs _) (h.acc x hx h0), fun x hx => ⟨fun h0 => Int.le_trans (hs _) ((h.qos x hx).1 h0), fun h0 => Int.le_trans (by have := hn (qosP x.f0); omega) ((h.qos x hx).2 h0)⟩⟩
theorem sum_cons (p : S32 → Bool) (x : S53) (l : List S53) : sumQ p (x :: l) = oneQ p x + sumQ p l := by unfold sumQ; rw [List.map_cons, List.sum_cons]
theorem num_cons (p : S32 → Bool) (x : S53) (l : List S53) : numQ p (x :: l) = (if hit p x = true then 1 else 0) + numQ p l := by
  unfold numQ
  rw [List.countP_cons]
  omega
theorem hit_over {p : S32 → Bool} {y : S53} (h : y.f4 = 3) : hit p y = false := by
  unfold hit
  rw [show (y.f4 == 2) = false by rw [h]; rfl]
  rfl
theorem set_less (y : S53) (hy : y.f4 = 3) : ∀ (L : List S53) (j : Nat), (∀ x ∈ L, tameS x.f3 = true) → ∀ p, sumQ p (L.set j y) ≤ sumQ p L ∧ numQ p (L.set j y) ≤ numQ p L
  | [], _, _, _ => ⟨Int.le_refl _, Nat.le_refl _⟩
  | x :: L, 0, ht, p => by
    have h1 := one_range p (ht x (List.mem_cons_self ..))
    have h0 : oneQ p y = 0 := by unfold oneQ; rw [if_neg (by rw [hit_over hy]; decide)]
    rw [List.set_cons_zero, sum_cons, sum_cons, num_cons, num_cons, h0, if_neg (by rw [hit_over hy]; decide)]
    exact ⟨by omega, by omega⟩
  | x :: L, j + 1, ht, p => by
    have ih := set_less y hy L j (fun z hz => ht z (List.mem_cons_of_mem _ hz)) p
    rw [List.set_cons_succ, sum_cons, sum_cons, num_cons, num_cons]
    omega
theorem Fine.over {q : List S59} {ac : List S57} {L : List S53} (h : Fine q ac L) (j : Nat) (y : S53) (hy : y.f4 = 3) (ht : tameS y.f3 = true) : Fine q ac (L.set j y) :=
  h.less ⟨fun x hx => (List.mem_or_eq_of_mem_set hx).elim (h.tame.1 x) (fun e => e ▸ ht), by rw [List.length_set]; exact h.tame.2⟩ (fun p => (set_less y hy L j h.tame.1 p).1) (fun p => (set_less y hy L j h.tame.1 p).2)
theorem above_no {m a b : Int} (h : aboveP m a b = false) (h0 : 0 ≤ m) : a + b ≤ m := by
  unfold aboveP at h
  have := of_decide_eq_false h
  omega
theorem isQ_iff (s : ByteArray) (x : S59) : isQ s x = true ↔ x.f0 = s := by
  unfold isQ
  rw [beq_iff_eq]
  exact ⟨fun h => toL_inj h, fun h => by rw [h]⟩
theorem allQ_at {q : List S59} : ∀ n, n ≤ q.length → allQ q n = true → ∀ j (hj : j < q.length), j < n → okQ (q.take j) q[j] = true
  | 0, _, _, _, _, h => absurd h (Nat.not_lt_zero _)
  | n + 1, hn, ha, j, hj, h => by
    rw [allQ_step q n (by omega), Bool.and_eq_true] at ha
    rcases Nat.lt_or_ge j n with h1 | h1
    · exact allQ_at n (by omega) ha.1 j hj h1
    · obtain rfl : n = j := by omega
      exact ha.2
theorem qos_self {q : List S59} {ac : List S57} (hr : rightQ q ac = true) {j : Nat} (hj : j < q.length) {s : ByteArray} (h : q[j].f0 = s) : idxOf q (isQ s) = j := by
  refine idxOf_at hj (fun i hi => ?_) ((isQ_iff _ _).2 h)
  have hok := allQ_at q.length (Nat.le_refl _) (rightQ_iff.1 hr).1 j hj hj
  unfold okQ at hok
  rw [Bool.and_eq_true, Bool.and_eq_true, Bool.and_eq_true, Bool.not_eq_true'] at hok
  have hn := List.any_eq_false.1 hok.1.1.2 (q[i]'(by omega)) (by rw [List.mem_take_iff_getElem]; exact ⟨i, by omega, rfl⟩)
  rw [h] at hn
  simpa using hn
theorem num_app1 (p : S32 → Bool) (L : List S53) (x : S53) : numQ p (L ++ [x]) = numQ p L + (if hit p x = true then 1 else 0) := by
  rw [num_app, num_cons]
  rfl
theorem sum_app1 (p : S32 → Bool) (L : List S53) (x : S53) : sumQ p (L ++ [x]) = sumQ p L + oneQ p x := by
  rw [sum_app, sum_cons]
  show _ + (_ + 0) = _
  omega
theorem hit_run {p : S32 → Bool} {x : S53} (h : x.f4 = 2) : hit p x = p x.f3 := by
  unfold hit
  rw [show (x.f4 == 2) = true by rw [h]; rfl, Bool.true_and]
theorem may_open {q : List S59} {ac : List S57} {L : List S53} {s : S32} (hr : rightQ q ac = true) (h : mayQ q ac L s = 0) : 0 ≤ idxOf q (isQ s.f2) ∧ (∀ a ∈ (pathA ac s.f1).1, overA ac L (s.f4 * s.f5) a = false) ∧ overL q L (s.f4 * s.f5) s.f2 = false := by
  unfold mayQ at h
  rw [if_pos hr] at h
  by_cases h1 : (pathA ac s.f1).2 = 0 ∧ 0 ≤ idxOf q (isQ s.f2)
  · rw [if_pos h1] at h
    cases h2 : (pathA ac s.f1).1.any (overA ac L (s.f4 * s.f5)) with
    | true => rw [h2, if_pos rfl] at h; exact absurd h (by decide)
    | false =>
      rw [h2, if_neg (by decide)] at h
      cases h3 : overL q L (s.f4 * s.f5) s.f2 with
      | true => rw [h3, if_pos rfl] at h; exact absurd h (by decide)
      | false => exact ⟨h1.2, fun a ha => by simpa using List.any_eq_false.1 h2 a ha, rfl⟩
  · rw [if_neg h1] at h
    exact absurd h (by decide)
theorem Fine.add {q : List S59} {ac : List S57} {L : List S53} (h : Fine q ac L) (s : S32) (hs : tameS s = true) (hm : mayQ q ac L s = 0) (x : S53) (hx3 : x.f3 = s) (hx4 : x.f4 = 2) (hl : L.length + 1 ≤ 1000000) : Fine q ac (L ++ [x]) := by
  subst hx3
  obtain ⟨hi, hp, hq⟩ := may_open h.right hm
  have hra := (rightQ_iff.1 h.right).2.2
  obtain ⟨T, _, _⟩ := (right_iff ac).1 hra
  have hmore : ∀ p : S32 → Bool, oneQ p x = if p x.f3 = true then x.f3.f4 * x.f3.f5 else 0 := fun p => by unfold oneQ; rw [hit_run hx4]
  refine ⟨h.right, ⟨fun y hy => ?_, by rw [List.length_append]; exact hl⟩, fun y hy h0 => ?_, fun y hy => ?_⟩
  · rcases List.mem_append.1 hy with h1 | h1
    · exact h.tame.1 y h1
    · rw [List.mem_singleton.1 h1]
      exact hs
  · have h1 := h.acc y hy h0
    unfold usedQ at h1 ⊢
    rw [sum_app1, hmore]
    obtain ⟨j, hj, rfl⟩ := List.mem_iff_getElem.1 hy
    have hf : (findA ac ac[j].f0).2 = true := found_mem.2 ⟨j, hj, rfl⟩
    by_cases hb : hasB (belowA ac ac[j].f0).1 x.f3.f1 = true
    · rw [if_pos hb]
      have h2 := hp _ (on_path hra hf hb)
      unfold overA limAt usedQ at h2
      rw [find_self T hj rfl, rdA ac j hj] at h2
      exact above_no h2 h0
    · rw [if_neg hb]
      omega
  · obtain ⟨h1, h2⟩ := h.qos y hy
    rw [sum_app1, hmore, num_app1, hit_run hx4]
    obtain ⟨j, hj, rfl⟩ := List.mem_iff_getElem.1 hy
    by_cases hb : qosP q[j].f0 x.f3 = true
    · rw [if_pos hb, if_pos hb]
      have e : q[j].f0 = x.f3.f2 := by
        unfold qosP at hb
        exact (toL_inj (beq_iff_eq.1 hb)).symm
      unfold overL at hq
      rw [qos_self h.right hj e, rdQ q j hj, Bool.or_eq_false_iff, ← e] at hq
      exact ⟨fun h0 => above_no hq.1 h0, fun h0 => by have := above_no hq.2 h0; omega⟩
    · rw [if_neg hb, if_neg hb]
      exact ⟨fun h0 => by have := h1 h0; omega, fun h0 => by have := h2 h0; omega⟩
theorem fine_nil {q : List S59} {ac : List S57} (hr : rightQ q ac = true) : Fine q ac [] := ⟨hr, ⟨fun _ h => (List.not_mem_nil h).elim, by decide⟩, fun x _ h0 => h0, fun x _ => ⟨fun h0 => h0, fun h0 => h0⟩⟩
end Go.Proofs.Ytcnobkcddgcifaa.PT
