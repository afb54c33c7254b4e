/- If up to four bytes next to each other are changed, the sum changes: the law's own text over numbers and lists answers true. -/
import Derived.Test.YtnipddabgedoaaaPBx1
import Derived.Test.YtnipddabgedoaaaSumsPlain
import Derived.Test.YtnipddabgedoaaaPlainLow
set_option linter.unusedVariables false
set_option linter.unusedSimpArgs false
namespace Go.Proofs.Ytnipddabgedoaaa.Pure
open Go.RowKit Go.Proofs.Ytnipddabgedoaaa.PB Go.Proofs.YtnipddabgedoaaaW.PrintWords Go.Proofs.YtnipddabgedoaaaW.PrintLast

/-- What holds of the changed copy. -/
def Inv (l : List Int) (p : Nat) (m : List Int) : Prop := m.length = l.length ∧ (∀ x ∈ m, 0 ≤ x ∧ x ≤ 255) ∧ ∀ j, j < l.length → (j < p ∨ p + 4 ≤ j) → m[j]? = l[j]?

theorem rd_byte {m : List Int} (h : ∀ x ∈ m, 0 ≤ x ∧ x ≤ 255) (i : Int) : 0 ≤ rd m i ∧ rd m i ≤ 255 := by
  unfold rd
  rw [List.getD_eq_getElem?_getD]
  cases e : m[i.toNat]? with
  | none => simp
  | some x => exact h x (List.mem_of_getElem? e)

theorem burst_end (l m : List Int) (p : Nat) (k : Nat) (hl : l.length ≤ 20000) (hb : ∀ x ∈ l, 0 ≤ x ∧ x ≤ 255) (hi : Inv l p m) : musterlaw02_SumsBursts.j2 (k + 1) l m = some true := by
  obtain ⟨h1, h2, h3⟩ := hi
  have o1 := Sums.okMore_mk (a := 0) (l := l) (by decide) (by decide) (by omega) hb
  have o2 := Sums.okMore_mk (a := 0) (l := m) (by decide) (by decide) (by omega) h2
  simp only [musterlaw02_SumsBursts.j2, sums_Crc.f, musterlow_SameBytes.f, musterlaw02_awake.f]
  rw [if_pos o1, if_pos o2]
  simp only [Option.bind_some]
  rw [Low.same_bytes hb h2]
  refine if_pos ?_
  by_cases e : l = m
  · subst e; simp
  · rw [decide_eq_false e, beq_false, Bool.not_eq_true', beq_eq_false_iff_ne]
    intro hc
    have hc2 : Sums.more 0 l = Sums.more 0 m := BitVec.eq_of_toNat_eq (by omega)
    have dl : l = l.take p ++ ((l.drop p).take 4 ++ (l.drop p).drop 4) := by rw [List.take_append_drop, List.take_append_drop]
    have dm : m = m.take p ++ ((m.drop p).take 4 ++ (m.drop p).drop 4) := by rw [List.take_append_drop, List.take_append_drop]
    have ea : m.take p = l.take p := by
      apply List.ext_getElem?
      intro j
      rw [List.getElem?_take, List.getElem?_take]
      by_cases hj : j < p
      · rw [if_pos hj, if_pos hj]
        by_cases hj2 : j < l.length
        · exact h3 j hj2 (.inl hj)
        · rw [List.getElem?_eq_none (by omega), List.getElem?_eq_none (by omega)]
      · rw [if_neg hj, if_neg hj]
    have eb : (m.drop p).drop 4 = (l.drop p).drop 4 := by
      apply List.ext_getElem?
      intro j
      rw [List.drop_drop, List.drop_drop, List.getElem?_drop, List.getElem?_drop]
      by_cases hj2 : p + 4 + j < l.length
      · exact h3 _ hj2 (.inr (by omega))
      · rw [List.getElem?_eq_none (by omega), List.getElem?_eq_none (by omega)]
    rw [dl, dm, ea, eb] at hc2
    have hmid := Sums.more_burst 0 _ _ _ _ (fun x hx => hb x (List.mem_of_mem_drop (List.mem_of_mem_take hx))) (fun x hx => h2 x (List.mem_of_mem_drop (List.mem_of_mem_take hx))) (by rw [List.length_take, List.length_take, List.length_drop, List.length_drop, h1]) (by rw [List.length_take]; omega) hc2
    exact e (by rw [dl, dm, ea, eb, hmid])

theorem burst_loop (l : List Int) (p : Nat) (c : Int) (hp : p < l.length) (hl : l.length ≤ 20000) (hb : ∀ x ∈ l, 0 ≤ x ∧ x ≤ 255) (d : Nat) : ∀ (k : Nat) (i : Int) (m : List Int), 0 ≤ i → i + d = 4 → d + 1 < k → Inv l p m → musterlaw02_SumsBursts.l0 k l p c m i = some true := by
  induction d with
  | zero =>
    intro k i m h0 hd hk hi
    obtain ⟨k, rfl⟩ : ∃ q, k = q + 1 := ⟨k - 1, by omega⟩
    obtain ⟨k, rfl⟩ : ∃ q, k = q + 1 := ⟨k - 1, by omega⟩
    simp only [musterlaw02_SumsBursts.l0]
    rw [if_neg (by omega)]
    exact burst_end l m p k hl hb hi
  | succ d ih =>
    intro k i m h0 hd hk hi
    obtain ⟨k, rfl⟩ : ∃ q, k = q + 1 := ⟨k - 1, by omega⟩
    simp only [musterlaw02_SumsBursts.l0]
    rw [if_pos (by omega)]
    have e1 : wrap64 ((p : Int) + i) = ((p + i.toNat : Nat) : Int) := by unfold wrap64; omega
    have e2 : IntKind.u64.wrap (wrap64 (8 * i)) = 8 * i := by
      rw [show wrap64 (8 * i) = 8 * i by unfold wrap64; omega]
      simp [IntKind.wrap, IntKind.bits, IntKind.signed]; omega
    have e3 : wrap64 (i + 1) = i + 1 := by unfold wrap64; omega
    rw [e1, e2, e3]
    by_cases hx : ((p + i.toNat : Nat) : Int) < (l.length : Int)
    · rw [if_pos hx, if_pos (by omega), if_pos (by rw [hi.1]; exact hx), if_pos (by omega)]
      refine ih k (i + 1) _ (by omega) (by omega) (by omega) ⟨by rw [List.length_set]; exact hi.1, ?_, ?_⟩
      · intro x hx2
        rcases List.mem_or_eq_of_mem_set hx2 with h | h
        · exact hi.2.1 x h
        · rw [h]
          have r1 := rd_byte hi.2.1 ((p + i.toNat : Nat) : Int)
          exact (Sums.xor_byte _ _ r1 ⟨Int.emod_nonneg _ (by decide), by have := Int.emod_lt_of_pos (shr .u32 c (8 * i)) (show (0 : Int) < 256 by decide); omega⟩).2
      · intro j hj hj2
        rw [Int.toNat_natCast, List.getElem?_set_ne (by omega)]
        exact hi.2.2 j hj hj2
    · rw [if_neg hx]
      obtain ⟨k, rfl⟩ : ∃ q, k = q + 1 := ⟨k - 1, by omega⟩
      exact burst_end l m p k hl hb hi

theorem burst_none (k : Nat) (l : List Int) (a b : Int) : musterlaw02_SumsBursts.j0 (k + 1) l a b true = some true := by
  simp only [musterlaw02_SumsBursts.j0, musterlaw02_awake.f, if_true, Option.bind_some]

theorem SumsBursts : musterlaw02_SumsBursts.Pure := by
  intro l a1 a2 hm hlen hw w1 w2
  have hb : ∀ x ∈ l, 0 ≤ x ∧ x ≤ 255 := fun x hx => Low.wf_u8 (hw x hx)
  obtain ⟨k, hk⟩ : ∃ k : Nat, 5 < k := ⟨6, by decide⟩
  refine ⟨k + 1, ?_⟩
  unfold musterlaw02_SumsBursts.f
  by_cases h : (l.length : Int) > 20000
  · rw [if_pos h]; exact burst_none k l a1 a2
  · rw [if_neg h]
    by_cases h0 : l.length = 0
    · rw [show ((l.length : Int) == 0) = true from beq_iff_eq.2 (by omega)]; exact burst_none k l a1 a2
    · rw [show ((l.length : Int) == 0) = false from beq_eq_false_iff_ne.2 (by omega)]
      obtain ⟨p, hp, p0, p1⟩ := Low.pick_range (x := a1) (n := (l.length : Int)) (by omega) (by omega)
      obtain ⟨q, rfl⟩ := Int.eq_ofNat_of_zero_le p0
      simp only [musterlaw02_SumsBursts.j0]
      rw [if_neg (by decide)]
      unfold musterlow_Pick.f musterlow_CopyBytes.f
      rw [hp]
      simp only [Option.bind_some, List.length_nil, List.nil_append]
      rw [if_pos (by omega)]
      exact burst_loop l q a2 (by omega) (by omega) hb 4 k 0 l (by omega) (by omega) (by omega) ⟨rfl, hb, fun _ _ _ => rfl⟩

end Go.Proofs.Ytnipddabgedoaaa.Pure
