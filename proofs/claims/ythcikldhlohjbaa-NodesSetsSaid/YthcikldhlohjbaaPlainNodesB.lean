/- Nodes: the document's answers are the program's. -/
import Derived.Test.YthcikldhlohjbaaPNx13
import Derived.Test.YthcikldhlohjbaaPlainNodesA
import Derived.Laws.BitsLemmas
set_option linter.unusedVariables false
set_option linter.unusedSimpArgs false
namespace Go.Proofs.Ythcikldhlohjbaa.PN
open Go.RowKit Go.Proofs.YthcikldhlohjbaaW.PrintWords Go.Proofs.YthcikldhlohjbaaW.PrintLast Go.Proofs.YthcikldhlohjbaaW.PrintMore Go.Proofs.Ythcikldhlohjbaa.EvK
/-! ### sets of bits -/
theorem wraps_u32 (n : Int) (h₀ : 0 ≤ n) (h₁ : n < 2 ^ 32) : IntKind.u32.wrap n = n := by rw [IntKind.wrap_u32]; omega
theorem or_u32 (a b : Nat) (ha : a < 2 ^ 32) (hb : b < 2 ^ 32) : Go.bits .or .u32 (a : Int) (b : Int) = ((a ||| b : Nat) : Int) := (bits_nat .u32 32 (by decide) wraps_u32 a b ha hb).2
theorem and_u32 (a b : Nat) (ha : a < 2 ^ 32) (hb : b < 2 ^ 32) : Go.bits .and .u32 (a : Int) (b : Int) = ((a &&& b : Nat) : Int) := (bits_nat .u32 32 (by decide) wraps_u32 a b ha hb).1
theorem pow_lt32 {n : Nat} (h : n < 32) : 2 ^ n < 2 ^ 32 := Nat.pow_lt_pow_right (by decide) h
theorem pow_i {n : Nat} (h : n < 32) : (2 : Int) ^ n % 4294967296 = ((2 ^ n : Nat) : Int) := by
  have h1 : ((2 ^ n : Nat) : Int) = (2 : Int) ^ n := by rw [Int.natCast_pow]; rfl
  have h2 := pow_lt32 h
  have h3 : (2 : Nat) ^ 32 = 4294967296 := by decide
  rw [← h1]
  generalize 2 ^ n = x at *
  omega
/-- The places below n at which q holds. -/
def onQ (q : Nat → Bool) (n : Nat) : List Nat := (List.range n).filter q
def sumQ (L : List Nat) : Nat := (L.map (2 ^ ·)).sum
theorem onQ_succ (q : Nat → Bool) (n : Nat) : onQ q (n + 1) = onQ q n ++ (if q n = true then [n] else []) := by
  unfold onQ
  rw [List.range_succ, List.filter_append]
  congr 1
  by_cases h : q n = true <;> simp [List.filter_cons, h]
theorem onQ_mem {q : Nat → Bool} {n x : Nat} (h : x ∈ onQ q n) : x < n ∧ q x = true := by
  unfold onQ at h
  simpa using h
theorem onQ_sorted (q : Nat → Bool) (n : Nat) : (onQ q n).Pairwise (· < ·) := List.Pairwise.filter _ List.pairwise_lt_range
theorem sumQ_le : ∀ (L : List Nat) (a m : Nat), a ≤ m → L.Pairwise (· < ·) → (∀ x ∈ L, a ≤ x ∧ x < m) → sumQ L + 2 ^ a ≤ 2 ^ m
  | [], a, m, ham, _, _ => by simp [sumQ]; exact Nat.pow_le_pow_right (by decide) ham
  | x :: L, a, m, ham, hp, hx => by
    obtain ⟨h1, h2⟩ := List.pairwise_cons.1 hp
    have hxm := hx x (List.mem_cons_self)
    have := sumQ_le L (x + 1) m (by omega) h2 (fun y hy => ⟨h1 y hy, (hx y (List.mem_cons_of_mem _ hy)).2⟩)
    have h3 : 2 ^ a ≤ 2 ^ x := Nat.pow_le_pow_right (by decide) hxm.1
    rw [Nat.pow_succ] at this
    simp only [sumQ, List.map_cons, List.sum_cons] at this ⊢
    omega
theorem sumQ_lt {L : List Nat} {m : Nat} (hp : L.Pairwise (· < ·)) (hx : ∀ x ∈ L, x < m) : sumQ L < 2 ^ m := by
  have := sumQ_le L 0 m (Nat.zero_le _) hp (fun x h => ⟨Nat.zero_le _, hx x h⟩)
  simp at this
  omega
theorem sumQ_snoc (L : List Nat) (x : Nat) : sumQ (L ++ [x]) = sumQ L + 2 ^ x := by simp [sumQ]
theorem or_pow {a n : Nat} (h : a < 2 ^ n) : a ||| 2 ^ n = a + 2 ^ n := by
  have := Nat.two_pow_add_eq_or_of_lt h 1
  rw [Nat.mul_one] at this
  rw [Nat.or_comm, ← this]
  omega
/-- The set that 'some' makes is the sum of its places' bits. -/
def qOf (l : List S55) (p : Nat → S55 → Bool) (i : Nat) : Bool := match l[i]? with | some x => decide (i < 32) && p i x | none => false
theorem someSet_sum (l : List S55) (p : Nat → S55 → Bool) : ∀ n, someSet l p n = ((sumQ (onQ (qOf l p) n) : Nat) : Int)
  | 0 => rfl
  | n + 1 => by
    rw [onQ_succ, someSet, someSet_sum l p n]
    have hq : qOf l p n = match l[n]? with | some x => decide (n < 32) && p n x | none => false := rfl
    cases hx : l[n]? with
    | none => rw [hx] at hq; simp [hq]
    | some x =>
      rw [hx] at hq
      simp only at hq ⊢
      by_cases h : n < 32 ∧ p n x = true
      · have h1 : qOf l p n = true := by rw [hq, h.2, decide_eq_true h.1]; rfl
        have h2 : sumQ (onQ (qOf l p) n) < 2 ^ n := sumQ_lt (onQ_sorted _ _) (fun y hy => (onQ_mem hy).1)
        have h3 := pow_i h.1
        rw [if_pos h, h1, if_pos rfl, sumQ_snoc, h3, or_u32 _ _ (Nat.lt_trans h2 (pow_lt32 h.1)) (pow_lt32 h.1), or_pow h2]
      · have h1 : qOf l p n = false := by
          rw [hq]
          simp only [not_and, Bool.not_eq_true] at h
          by_cases h4 : n < 32
          · rw [h h4, Bool.and_false]
          · rw [decide_eq_false h4, Bool.false_and]
        rw [if_neg h, h1]
        simp
/-! ### the document's sets -/
theorem has_l0 (i : Nat) (hi : i < 32) : ∀ d j (s : Nat), j + d = i → s < 4294967296 → Ev (fun k => musterref10_Has.l0 k (s : Int) (i : Int) (j : Int)) (decide (s / 2 ^ d % 2 = 1)) := by
  intro d
  induction d with
  | zero =>
    intro j s hj hs
    refine Ev.stp (fun k => by rw [musterref10_Has.l0]) ?_
    refine Ev.neg (by omega) (Ev.pos (by omega) (Ev.pos (by omega) (Ev.one ?_)))
    rw [Nat.pow_zero, Nat.div_one, Int.tmod_eq_emod_of_nonneg (by omega)]
    rw [Bool.eq_iff_iff]
    simp only [beq_iff_eq, decide_eq_true_eq]
    omega
  | succ d ih =>
    intro j s hj hs
    refine Ev.stp (fun k => by rw [musterref10_Has.l0]) ?_
    refine Ev.pos (by omega) ?_
    rw [wr1 (by omega), Int.tdiv_eq_ediv_of_nonneg (by omega), show ((s : Int) / 2) % 4294967296 = ((s / 2 : Nat) : Int) from by omega]
    have := ih (j + 1) (s / 2) (by omega) (by omega)
    rw [Nat.pow_succ', ← Nat.div_div_eq_div_mul]
    exact this
theorem has_ev (s i : Nat) (hi : i < 32) (hs : s < 4294967296) : Ev (fun k => musterref10_Has.f k (s : Int) (i : Int)) (decide (s / 2 ^ i % 2 = 1)) := has_l0 i hi i 0 s (by omega) hs
theorem bit_l0 (i : Nat) (hi : i < 32) : ∀ d j, j + d = i → Ev (fun k => musterref10_bit.l0 k (i : Int) ((2 ^ j : Nat) : Int) (j : Int)) ((2 ^ i : Nat) : Int) := by
  intro d
  induction d with
  | zero =>
    intro j hj
    obtain rfl : j = i := by omega
    refine Ev.stp (fun k => by rw [musterref10_bit.l0]) ?_
    exact Ev.neg (by omega) (Ev.one rfl)
  | succ d ih =>
    intro j hj
    refine Ev.stp (fun k => by rw [musterref10_bit.l0]) ?_
    refine Ev.pos (by omega) ?_
    have h2 := pow_lt32 (show j + 1 < 32 by omega)
    have h3 : (2 : Nat) ^ 32 = 4294967296 := by decide
    have h4 : (((2 ^ j : Nat) : Int) * 2) % 4294967296 = ((2 ^ (j + 1) : Nat) : Int) := by
      rw [Nat.pow_succ] at h2 ⊢
      generalize 2 ^ j = x at *
      omega
    rw [wr1 (by omega), h4]
    exact ih (j + 1) (by omega)
theorem bit_ev (i : Nat) (hi : i < 32) : Ev (fun k => musterref10_bit.f k (i : Int)) ((2 ^ i : Nat) : Int) := bit_l0 i hi i 0 (by omega)
def ints (L : List Nat) : List Int := L.map fun (x : Nat) => (x : Int)
theorem ints_get (L : List Nat) (i : Nat) (h : i < L.length) : rd (ints L) (i : Int) = (L[i] : Int) := by rw [rd_nat _ i (by simpa [ints] using h)]; simp [ints]
theorem of_l0 (L : List Nat) (hp : L.Pairwise (· < ·)) (hx : ∀ x ∈ L, x < 32) (hl : L.length ≤ 1048576) : ∀ d i, i + d = L.length → Ev (fun k => musterref10_Of.l0 k (ints L) ((sumQ (L.take i) : Nat) : Int) (i : Int)) (((sumQ L : Nat) : Int), 0) := by
  have hll : (ints L).length = L.length := by simp [ints]
  intro d
  induction d with
  | zero =>
    intro i hi
    refine Ev.stp (fun k => by rw [musterref10_Of.l0]) ?_
    refine Ev.neg (by omega) (Ev.one ?_)
    rw [List.take_of_length_le (by omega)]
  | succ d ih =>
    intro i hi
    have hlt : i < L.length := by omega
    have hxi := hx L[i] (List.getElem_mem hlt)
    have hs : sumQ (L.take i) < 2 ^ L[i] := by
      refine sumQ_lt (List.Pairwise.sublist (List.take_sublist _ _) hp) fun x h => ?_
      obtain ⟨j, hj, rfl⟩ := List.mem_take_iff_getElem.1 h
      exact List.pairwise_iff_getElem.1 hp j i (by omega) hlt (by omega)
    have h32 := pow_lt32 hxi
    have h33 : (2 : Nat) ^ 32 = 4294967296 := by decide
    have hd : sumQ (L.take i) / 2 ^ L[i] = 0 := Nat.div_eq_of_lt hs
    refine Ev.stp (fun k => by rw [musterref10_Of.l0]) ?_
    refine Ev.pos (by omega) (Ev.pos (by omega) ?_)
    rw [ints_get L i hlt]
    refine Ev.neg (by omega) ?_
    rw [decide_eq_false (by omega : ¬ (L[i] : Int) > 31)]
    refine Ev.stp (fun k => by rw [musterref10_Of.j1]) ?_
    rw [ints_get L i hlt]
    refine Ev.neg (by decide) (Ev.pos (by omega) (Ev.pos (by omega) (Ev.bnd (has_ev _ _ hxi (by omega)) ?_)))
    refine Ev.neg (by rw [hd]; decide) (Ev.bnd (bit_ev _ hxi) ?_)
    have h5 : sumQ (L.take (i + 1)) = sumQ (L.take i) + 2 ^ L[i] := by rw [List.take_succ_eq_append_getElem hlt, sumQ_snoc]
    have h6 : sumQ (L.take (i + 1)) < 2 ^ (L[i] + 1) := by rw [h5, Nat.pow_succ]; omega
    have h7 : (2 : Nat) ^ (L[i] + 1) ≤ 2 ^ 32 := Nat.pow_le_pow_right (by decide) (by omega)
    rw [wr1 (by omega), show (((sumQ (L.take i) : Nat) : Int) + ((2 ^ L[i] : Nat) : Int)) % 4294967296 = ((sumQ (L.take (i + 1)) : Nat) : Int) from by rw [h5]; omega]
    exact ih (i + 1) (by omega)
theorem of_ev (L : List Nat) (hp : L.Pairwise (· < ·)) (hx : ∀ x ∈ L, x < 32) (hl : L.length ≤ 1048576) : Ev (fun k => musterref10_Of.f k (ints L)) (((sumQ L : Nat) : Int), 0) := of_l0 L hp hx hl L.length 0 (by omega)
theorem onQ_len (q : Nat → Bool) (n : Nat) : (onQ q n).length ≤ n := by
  unfold onQ
  have := List.length_filter_le q (List.range n)
  rw [List.length_range] at this
  exact this
theorem ints_snoc (L : List Nat) (x : Nat) : ints L ++ [(x : Int)] = ints (L ++ [x]) := by simp [ints]
theorem qOf_at (l : List S55) (p : Nat → S55 → Bool) (j : Nat) (h : j < l.length) : qOf l p j = (decide (j < 32) && p j l[j]) := by unfold qOf; rw [List.getElem?_eq_getElem h]
theorem qOf_out (l : List S55) (p : Nat → S55 → Bool) (j : Nat) (h : ¬ (j < l.length ∧ j < 32)) : qOf l p j = false := by
  unfold qOf
  by_cases h1 : j < l.length
  · rw [List.getElem?_eq_getElem h1, decide_eq_false (by omega)]; rfl
  · rw [List.getElem?_eq_none (by omega)]
theorem onQ_stop (l : List S55) (p : Nat → S55 → Bool) (j : Nat) (h : ¬ (j < l.length ∧ j < 32)) : ∀ n, j ≤ n → onQ (qOf l p) n = onQ (qOf l p) j := by
  intro n hn
  induction n with
  | zero => obtain rfl : j = 0 := by omega
            rfl
  | succ n ih =>
    rcases Nat.lt_or_ge n j with h1 | h1
    · obtain rfl : j = n + 1 := by omega
      rfl
    · rw [onQ_succ, qOf_out l p n (by omega), ih h1]; simp
theorem onQ_small (l : List S55) (p : Nat → S55 → Bool) (n : Nat) : ∀ x ∈ onQ (qOf l p) n, x < 32 := by
  intro x hx
  have h := (onQ_mem hx).2
  rcases Nat.lt_or_ge x 32 with h1 | h1
  · exact h1
  · rw [qOf_out l p x (by omega)] at h; cases h
/-- The set of the places up to where the loop stops is the whole one. -/
theorem some_at (l : List S55) (p : Nat → S55 → Bool) (j : Nat) (hj : j ≤ l.length) (h : ¬ (j < l.length ∧ j < 32)) (hl : l.length ≤ 1048576) : Ev (fun k => (musterref10_Of.f k (ints (onQ (qOf l p) j))).bind fun bt => some bt.1) (someSet l p l.length) := by
  refine Ev.bnd (of_ev _ (onQ_sorted _ _) (onQ_small _ _ _) (by have := onQ_len (qOf l p) j; omega)) (Ev.one ?_)
  rw [someSet_sum, onQ_stop l p j h l.length hj]
theorem refUp_l0 (l : List S55) (hl : l.length ≤ 1048576) : ∀ d j, j + d = min l.length 32 → Ev (fun k => musterref13_Up.l0 k l (ints (onQ (qOf l fun _ x => x.f1) j)) (j : Int)) (nodesUp l) := by
  intro d
  induction d with
  | zero =>
    intro j hj
    have hend : Ev (fun k => musterref13_Up.j1 k l (ints (onQ (qOf l fun _ x => x.f1) j)) (j : Int) false) (nodesUp l) := by
      refine Ev.stp (fun k => by rw [musterref13_Up.j1]) ?_
      exact Ev.neg (by decide) (some_at l _ j (by omega) (by omega) hl)
    refine Ev.stp (fun k => by rw [musterref13_Up.l0]) ?_
    by_cases h : (j : Int) < (l.length : Int)
    · refine Ev.pos h ?_
      rw [decide_eq_false (by omega)]
      exact hend
    · exact Ev.neg h hend
  | succ d ih =>
    intro j hj
    have hlt : j < l.length := by omega
    have hn := onQ_len (qOf l fun _ x => x.f1) j
    have hs := onQ_succ (qOf l fun _ x => x.f1) j
    rw [qOf_at l _ j hlt, decide_eq_true (by omega), Bool.true_and] at hs
    have hi := ih (j + 1) (by omega)
    rw [hs] at hi
    refine Ev.stp (fun k => by rw [musterref13_Up.l0]) ?_
    refine Ev.pos (by omega) ?_
    rw [decide_eq_true (by omega : (j : Int) < 32)]
    refine Ev.stp (fun k => by rw [musterref13_Up.j1]) ?_
    refine Ev.pos rfl (Ev.pos (by omega) (Ev.pos (by omega) ?_))
    rw [rdN l j hlt, wr1 (by omega)]
    by_cases hf : l[j].f1 = true
    · rw [if_pos hf] at hi
      refine Ev.pos hf (Ev.pos (by simp only [ints, List.length_map]; omega) ?_)
      rw [ints_snoc]
      exact hi
    · rw [if_neg hf, List.append_nil] at hi
      exact Ev.neg hf hi
theorem refUp_ev (l : List S55) (hl : l.length ≤ 1048576) : Ev (fun k => musterref13_Up.f k l) (nodesUp l) := refUp_l0 l hl (min l.length 32) 0 (by omega)
theorem able_has (on : Nat) (h : on < 4294967296) (c : Int) (j : Nat) (hj : j < 32) (x : S55) : able1 (on : Int) c j x = (decide (on / 2 ^ j % 2 = 1) && decide (c ≤ x.f0)) := by
  unfold able1
  rw [Nat.min_eq_left (by omega), show ((on : Int) / 2 ^ j) = ((on / 2 ^ j : Nat) : Int) from by rw [Int.natCast_ediv, Int.natCast_pow]; rfl]
  have h2 := Nat.div_le_self on (2 ^ j)
  generalize on / 2 ^ j = q at *
  rw [show (1 : Int) = 2 ^ 1 - 1 from rfl, bits_mask .u32 32 (by decide) wraps_u32 1 (by decide) _ (by omega) (by omega)]
  congr 1
  rw [Bool.eq_iff_iff]
  simp only [decide_eq_true_eq]
  omega
theorem refAble_l0 (l : List S55) (hl : l.length ≤ 1048576) (on : Nat) (hon : on < 4294967296) (c : Int) : ∀ d j, j + d = min l.length 32 → Ev (fun k => musterref13_Able.l0 k l (on : Int) c (ints (onQ (qOf l (able1 (on : Int) c)) j)) (j : Int)) (nodesAble l (on : Int) c) := by
  intro d
  induction d with
  | zero =>
    intro j hj
    have hend : Ev (fun k => musterref13_Able.j1 k l (on : Int) c (ints (onQ (qOf l (able1 (on : Int) c)) j)) (j : Int) false) (nodesAble l (on : Int) c) := by
      refine Ev.stp (fun k => by rw [musterref13_Able.j1]) ?_
      exact Ev.neg (by decide) (some_at l _ j (by omega) (by omega) hl)
    refine Ev.stp (fun k => by rw [musterref13_Able.l0]) ?_
    by_cases h : (j : Int) < (l.length : Int)
    · refine Ev.pos h ?_
      rw [decide_eq_false (by omega)]
      exact hend
    · exact Ev.neg h hend
  | succ d ih =>
    intro j hj
    have hlt : j < l.length := by omega
    have hn := onQ_len (qOf l (able1 (on : Int) c)) j
    have hs := onQ_succ (qOf l (able1 (on : Int) c)) j
    rw [qOf_at l _ j hlt, decide_eq_true (by omega), Bool.true_and, able_has on hon c j (by omega)] at hs
    have hi := ih (j + 1) (by omega)
    rw [hs] at hi
    refine Ev.stp (fun k => by rw [musterref13_Able.l0]) ?_
    refine Ev.pos (by omega) ?_
    rw [decide_eq_true (by omega : (j : Int) < 32)]
    refine Ev.stp (fun k => by rw [musterref13_Able.j1]) ?_
    refine Ev.pos rfl (Ev.bnd (has_ev on j (by omega) hon) ?_)
    rw [rdN l j hlt, wr1 (by omega)]
    by_cases h1 : on / 2 ^ j % 2 = 1
    · rw [decide_eq_true h1] at hi ⊢
      refine Ev.pos rfl (Ev.pos (by omega) (Ev.pos (by omega) ?_))
      by_cases h2 : c ≤ l[j].f0
      · rw [decide_eq_true h2] at hi
        refine Ev.pos h2 (Ev.pos (by simp only [ints, List.length_map]; omega) ?_)
        rw [ints_snoc]
        exact hi
      · rw [decide_eq_false h2] at hi
        rw [show (if (true && false) = true then [j] else []) = [] from rfl, List.append_nil] at hi
        exact Ev.neg h2 hi
    · rw [decide_eq_false h1] at hi ⊢
      rw [Bool.false_and, if_neg (by decide), List.append_nil] at hi
      exact Ev.neg (by decide) hi
theorem refAble_ev (l : List S55) (hl : l.length ≤ 1048576) (on : Nat) (hon : on < 4294967296) (c : Int) : Ev (fun k => musterref13_Able.f k l (on : Int) c) (nodesAble l (on : Int) c) := refAble_l0 l hl on hon c (min l.length 32) 0 (by omega)
end Go.Proofs.Ythcikldhlohjbaa.PN
