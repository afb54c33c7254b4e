/- A failure takes exactly one node out; who has enough cores does not hang on being up. -/
import Derived.Test.YthcikldhlohjbaaPNx16
import Derived.Test.YthcikldhlohjbaaPNOpenNodesSets
import Derived.Test.YthcikldhlohjbaaPlainNodesC
import Derived.Laws.BitsAllLaws
set_option linter.unusedVariables false
set_option linter.unusedSimpArgs false
namespace Go.Proofs.Ythcikldhlohjbaa.Pure
open Go.RowKit Go.Proofs.YthcikldhlohjbaaW.PrintWords Go.Proofs.YthcikldhlohjbaaW.PrintLast Go.Proofs.YthcikldhlohjbaaW.PrintMore Go.Proofs.Ythcikldhlohjbaa.EvK Go.Proofs.Ythcikldhlohjbaa.PN Go.Proofs.Ythcikldhlohjbaa.PN.NodesSetsOpen
theorem tb_sum (q : Nat → Bool) (j : Nat) : ∀ n, (sumQ (onQ q n)).testBit j = (decide (j < n) && q j)
  | 0 => by simp [onQ, sumQ]
  | n + 1 => by
    have h2 : sumQ (onQ q n) < 2 ^ n := sumQ_lt (onQ_sorted _ _) (fun y hy => (onQ_mem hy).1)
    rw [onQ_succ]
    by_cases h : q n = true
    · rw [if_pos h, sumQ_snoc, ← or_pow h2, Nat.testBit_or, tb_sum q j n, Nat.testBit_two_pow]
      by_cases e : n = j
      · subst e; simp [h]
      · rw [Bool.eq_iff_iff]; simp [e]; omega
    · rw [if_neg h, List.append_nil, tb_sum q j n]
      by_cases e : n = j
      · subst e
        have : q n = false := by simpa using h
        simp [this]
      · rw [Bool.eq_iff_iff]; simp; omega
/-- The set as a number of bits. -/
def setN (l : List S55) (p : Nat → S55 → Bool) : Nat := sumQ (onQ (qOf l p) l.length)
theorem set_int (l : List S55) (p : Nat → S55 → Bool) : someSet l p l.length = (setN l p : Int) := someSet_sum l p l.length
theorem set_bit (l : List S55) (p : Nat → S55 → Bool) (j : Nat) : (setN l p).testBit j = qOf l p j := by
  unfold setN
  rw [tb_sum]
  by_cases h : j < l.length
  · simp [h]
  · rw [qOf_out l p j (by omega)]; simp
theorem set_lt (l : List S55) (p : Nat → S55 → Bool) : setN l p < 4294967296 := by
  have := sumQ_lt (m := 32) (onQ_sorted (qOf l p) l.length) (onQ_small l p l.length)
  exact this
theorem anot (a b : Nat) (ha : a < 4294967296) (hb : b < 4294967296) : Go.bits .andNot .u32 (a : Int) (b : Int) = ((a &&& (4294967295 - b) : Nat) : Int) := u32_andNot_nat a b ha hb
theorem compl_bit (b j : Nat) (hb : b < 4294967296) : (4294967295 - b).testBit j = (decide (j < 32) && !b.testBit j) := by
  have := Nat.testBit_two_pow_sub_succ (n := 32) hb j
  rwa [show 2 ^ 32 - (b + 1) = 4294967295 - b from by omega] at this
theorem within_of (a b : Nat) (ha : a < 4294967296) (hb : b < 4294967296) (h : ∀ j, a.testBit j = true → b.testBit j = true) : nodeset_Within.f (a : Int) (b : Int) = some true := by
  unfold nodeset_Within.f
  rw [anot a b ha hb]
  have : a &&& (4294967295 - b) = 0 := by
    apply Nat.eq_of_testBit_eq
    intro j
    rw [Nat.testBit_and, compl_bit b j hb, Nat.zero_testBit]
    cases h1 : a.testBit j with
    | false => rfl
    | true => rw [h j h1]; simp
  rw [this]
  rfl
theorem shl_u32 (n : Nat) (h : n ≤ 32) : shl .u32 1 (n : Int) = ((2 ^ n % 4294967296 : Nat) : Int) := by
  unfold shl
  rw [show (n : Int).toNat = n from rfl, Nat.min_eq_left (show n ≤ IntKind.u32.bits from h), IntKind.wrap_u32, Int.one_mul]
  have h1 : ((2 ^ n : Nat) : Int) = (2 : Int) ^ n := by rw [Int.natCast_pow]; rfl
  rw [← h1]
  generalize 2 ^ n = x
  omega
theorem mask_int (n : Nat) (h : n ≤ 32) : (shl .u32 1 (n : Int) - 1) % 4294967296 = ((2 ^ n - 1 : Nat) : Int) := by
  rw [shl_u32 n h]
  have h2 : 2 ^ n ≤ 2 ^ 32 := Nat.pow_le_pow_right (by decide) h
  have h3 : (2 : Nat) ^ 32 = 4294967296 := by decide
  have h4 := Nat.two_pow_pos n
  generalize 2 ^ n = x at *
  omega
theorem able_bit (l : List S55) (on : Nat) (hon : on < 4294967296) (c : Int) (j : Nat) : (setN l (able1 (on : Int) c)).testBit j = match l[j]? with | some x => (decide (j < 32) && (on.testBit j && decide (c ≤ x.f0))) | none => false := by
  rw [set_bit]
  unfold qOf
  cases l[j]? with
  | none => rfl
  | some x =>
    simp only
    by_cases h : j < 32
    · rw [able_has on hon c j h x, Nat.testBit_eq_decide_div_mod_eq]
    · simp [h]
theorem pick_of (a : Int) (ha : (Lit.int .i64 a).wf = true) (n : Nat) (h0 : 1 ≤ n) (h1 : n ≤ 32) : ∃ p : Nat, p < n ∧ musterkit_Pick.f a (n : Int) = some (p : Int) := by
  unfold musterkit_Pick.f
  rw [if_neg (by omega), if_neg (by omega)]
  have hb1 : Int.tmod a n < n := Int.tmod_lt_of_pos a (by omega)
  have hb2 : -(n : Int) < Int.tmod a n := by
    have := Int.lt_tmod_of_pos a (b := (n : Int)) (by omega)
    exact this
  by_cases h : Int.tmod a n < 0
  · rw [if_pos h, wrI (by omega) (by omega)]
    exact ⟨(Int.tmod a n + n).toNat, by omega, by congr 1; omega⟩
  · rw [if_neg h]
    exact ⟨(Int.tmod a n).toNat, by omega, by congr 1; omega⟩
theorem set_map (l : List S55) (m : Nat) (hm : m < l.length) (b : Bool) (e : Int) : (l.set m ⟨l[m].f0, b, e⟩).map (·.f0) = l.map (·.f0) := by
  rw [List.map_set]
  apply List.ext_getElem (by simp)
  intro i h1 h2
  rw [List.getElem_set]
  split
  · rename_i e; subst e; simp
  · rfl
theorem NodesSets (x0 : List (S55)) (x1 : Int) (x2 : S65) (w0 : (x0.length * 24 ≤ 140737488351232 ∧ ∀ yx0 ∈ x0, g55 yx0)) (w1 : (Lit.int .i64 x1).wf = true) (w2 : g65 x2) : ∃ k, PN.musterlaw13_NodesSets.f k x0 x1 (x2.f0) (x2.f1) = some true := by
  obtain ⟨on, hon, hlt⟩ : ∃ on : Nat, x2.f0 = (on : Int) ∧ on < 4294967296 := by
    have h : IntKind.u32.min ≤ x2.f0 ∧ x2.f0 ≤ IntKind.u32.max := by simpa [Lit.wf] using w2.1
    have e1 : IntKind.u32.min = 0 := rfl
    have e2 : IntKind.u32.max = 4294967295 := rfl
    exact ⟨x2.f0.toNat, by omega, by omega⟩
  have hc := w2.2
  generalize hcc : x2.f1 = c at *
  have hcb : -9223372036854775808 ≤ c ∧ c ≤ 9223372036854775807 := by
    have h : IntKind.i64.min ≤ c ∧ c ≤ IntKind.i64.max := by simpa [Lit.wf] using hc
    have e1 : IntKind.i64.min = -9223372036854775808 := rfl
    have e2 : IntKind.i64.max = 9223372036854775807 := rfl
    omega
  refine Ev.the ?_
  unfold PN.musterlaw13_NodesSets.f
  rw [hon]
  refine Ev.bnd (Ev.const rfl) ?_
  by_cases hr : nodesRight x0 = true
  · have hl : 1 ≤ x0.length ∧ x0.length ≤ 32 := by
      have h := hr
      unfold nodesRight at h
      simp only [Bool.and_eq_true, decide_eq_true_eq] at h
      exact h.1
    obtain ⟨p, hp, hpick⟩ := pick_of x1 w1 x0.length hl.1 hl.2
    have hable : ∀ c, nodesAble x0 (on : Int) c = (setN x0 (able1 (on : Int) c) : Int) := fun c => set_int x0 _
    have hj : ∀ b, b = false → Ev (fun k => musterlaw13_NodesSets.j0 k x0 (p : Int) (on : Int) c (setN x0 (able1 (on : Int) c) : Int) b) true := by
      rintro _ rfl
      refine Ev.stp (fun k => by rw [musterlaw13_NodesSets.j0]) ?_
      refine Ev.neg (by decide) (Ev.bnd (Ev.const (fail_f x0 p)) ?_)
      have hat := at_in hr (i := (p : Int)) (by omega) (by omega)
      unfold failN
      rw [if_pos hat, rdN x0 p hp, Int.toNat_natCast]
      by_cases hf : x0[p].f1 = true
      · rw [if_pos hf]
        refine Ev.pos rfl (Ev.pos (by omega) (Ev.pos (by omega) (Ev.pos hf ?_)))
        have hlen : (x0.set p ⟨x0[p].f0, false, x0[p].f2⟩).length = x0.length := by simp
        have e1 : nodesUp (x0.set p ⟨x0[p].f0, false, x0[p].f2⟩) = Go.bits .andNot .u32 (nodesUp x0) (shl .u32 1 (p : Int)) := by
          have h1 : nodesUp (x0.set p ⟨x0[p].f0, false, x0[p].f2⟩) = (setN (x0.set p ⟨x0[p].f0, false, x0[p].f2⟩) (fun _ x => x.f1) : Int) := set_int _ _
          have h2 : nodesUp x0 = (setN x0 (fun _ x => x.f1) : Int) := set_int _ _
          have h5 : 2 ^ p < 4294967296 := pow_lt32 (by omega)
          rw [h1, h2, shl_u32 p (by omega), Nat.mod_eq_of_lt h5, anot _ _ (set_lt _ _) h5]
          congr 1
          apply Nat.eq_of_testBit_eq
          intro j
          rw [Nat.testBit_and, compl_bit _ _ h5, set_bit, set_bit, Nat.testBit_two_pow]
          unfold qOf
          rw [List.getElem?_set]
          by_cases e : p = j
          · subst e
            simp [hp]
          · rw [if_neg e]
            cases x0[j]? with
            | none => simp
            | some x => rw [Bool.eq_iff_iff]; simp [e]; intro h _; exact h
        have e2 : nodesAble (x0.set p ⟨x0[p].f0, false, x0[p].f2⟩) (on : Int) c = (setN x0 (able1 (on : Int) c) : Int) := by
          rw [show nodesAble (x0.set p ⟨x0[p].f0, false, x0[p].f2⟩) (on : Int) c = (setN (x0.set p ⟨x0[p].f0, false, x0[p].f2⟩) (able1 (on : Int) c) : Int) from set_int _ _]
          congr 1
          apply Nat.eq_of_testBit_eq
          intro j
          rw [able_bit _ _ hlt, able_bit _ _ hlt, List.getElem?_set]
          by_cases e : p = j
          · subst e
            simp [hp]
          · rw [if_neg e]
        refine Ev.bnd (Ev.const rfl) (Ev.bnd (Ev.const rfl) (Ev.pos e1 (Ev.bnd (Ev.const rfl) (Ev.pos e2 ?_))))
        have e3 := coresN (x0.set p ⟨x0[p].f0, false, x0[p].f2⟩) (by omega)
        rw [set_map x0 p hp] at e3
        exact Ev.bnd e3 (Ev.bnd (coresN x0 (by omega)) (Ev.bnd (sameI _ (by simp; omega)) (Ev.pos rfl (Ev.bnd awake_ev (Ev.one rfl)))))
      · rw [if_neg hf]
        exact Ev.neg (by simp) (Ev.pos (by omega) (Ev.pos (by omega) (Ev.neg hf (Ev.bnd awake_ev (Ev.one rfl)))))
    have h1b : (nodesAble x0 (on : Int) 1 != (Go.bits .and .u32 (on : Int) ((shl .u32 1 (x0.length : Int) - 1) % 4294967296))) = false := by
      have h2 : 2 ^ x0.length ≤ 2 ^ 32 := Nat.pow_le_pow_right (by decide) hl.2
      have h3 : (2 : Nat) ^ 32 = 4294967296 := by decide
      rw [hable 1, mask_int x0.length hl.2, and_u32 on _ hlt (by omega), bne_eq_false_iff_eq]
      congr 1
      apply Nat.eq_of_testBit_eq
      intro j
      rw [able_bit _ _ hlt, Nat.testBit_and, Nat.testBit_two_pow_sub_one]
      by_cases h : j < x0.length
      · have hq := right_at hr (i := (j : Int)) (by omega) (by omega)
        rw [rdN x0 j h] at hq
        rw [List.getElem?_eq_getElem h]
        simp only
        rw [decide_eq_true (by omega : j < 32), decide_eq_true hq.2.2.1, decide_eq_true h]
        simp
      · rw [List.getElem?_eq_none (by omega), decide_eq_false h]
        simp
    refine Ev.pos hr (Ev.bnd (Ev.const hpick) (Ev.bnd (Ev.const rfl) (Ev.bnd (Ev.const rfl) ?_)))
    rw [hable c]
    refine Ev.bnd (Ev.const (within_of _ _ (set_lt _ _) hlt fun j hj => ?_)) (Ev.pos rfl ?_)
    · rw [able_bit _ _ hlt] at hj
      cases hx : x0[j]? with
      | none => rw [hx] at hj; cases hj
      | some x => rw [hx] at hj; simp at hj; exact hj.2.1
    · by_cases hc0 : c > 0
      · refine Ev.pos hc0 ?_
        rw [hable (wrap64 (Int.tdiv c 2))]
        refine Ev.bnd (Ev.const (within_of _ _ (set_lt _ _) (set_lt _ _) fun j hjj => ?_)) (Ev.pos rfl (Ev.bnd (Ev.const rfl) (hj _ h1b)))
        rw [able_bit _ _ hlt] at hjj ⊢
        cases hx : x0[j]? with
        | none => rw [hx] at hjj; cases hjj
        | some x =>
          rw [hx] at hjj
          simp only [Bool.and_eq_true, decide_eq_true_eq] at hjj ⊢
          refine ⟨hjj.1, hjj.2.1, ?_⟩
          rw [Int.tdiv_eq_ediv_of_nonneg (by omega), wrI (by omega) (by omega)]
          omega
      · exact Ev.neg hc0 (Ev.bnd (Ev.const rfl) (hj _ h1b))
  · exact Ev.neg hr (Ev.bnd awake_ev (Ev.one rfl))
end Go.Proofs.Ythcikldhlohjbaa.Pure
