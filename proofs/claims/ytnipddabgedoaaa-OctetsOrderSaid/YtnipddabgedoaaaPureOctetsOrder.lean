/- Numbers stand in bytes in their own order: the law's own text over numbers and lists answers true. -/
import Derived.Test.YtnipddabgedoaaaPOx2
import Derived.Test.YtnipddabgedoaaaPlainLow
set_option linter.unusedVariables false
set_option linter.unusedSimpArgs false
namespace Go.Proofs.Ytnipddabgedoaaa.Pure
open Go.RowKit Go.Proofs.Ytnipddabgedoaaa.PO Go.Proofs.YtnipddabgedoaaaW.PrintWords Go.Proofs.YtnipddabgedoaaaW.PrintLast

theorem be_step (v : Int) (n : Nat) : Oct.be v (n + 1) = (v / 2 ^ (8 * n) % 256) :: Oct.be v n := by
  unfold Oct.be
  rw [List.range_succ_eq_map, List.map_cons, List.map_map]
  congr 1
  apply List.map_congr_left
  intro i hi
  have := List.mem_range.1 hi
  show v / 2 ^ (8 * (n + 1 - 1 - (i + 1))) % 256 = _
  rw [show n + 1 - 1 - (i + 1) = n - 1 - i by omega]
theorem be_bytes (v : Int) (n : Nat) : ∀ x ∈ Oct.be v n, 0 ≤ x ∧ x ≤ 255 := by
  intro x hx
  unfold Oct.be at hx
  obtain ⟨i, _, rfl⟩ := List.mem_map.1 hx
  omega
abbrev enc (l : List Int) : List UInt8 := l.map fun x => UInt8.ofNat x.toNat

theorem emod_step (a M : Int) (hM : 0 < M) : a % (M * 256) = M * (a / M % 256) + a % M := by
  have h1 := Int.mul_ediv_add_emod a M
  have h2 := Int.mul_ediv_add_emod (a / M) 256
  have r0 := Int.emod_nonneg a (show M ≠ 0 by omega)
  have r1 := Int.emod_lt_of_pos a hM
  generalize a % M = r at *
  generalize a / M = q at *
  have s0 := Int.emod_nonneg q (show (256 : Int) ≠ 0 by decide)
  have s1 := Int.emod_lt_of_pos q (show (0 : Int) < 256 by decide)
  generalize q % 256 = s at *
  generalize q / 256 = t at *
  have e : a = (M * s + r) + M * 256 * t := by
    rw [← h1, ← h2, Int.mul_add, Int.mul_assoc]; omega
  have hu : M * s + M ≤ M * 256 := by
    have := Int.mul_le_mul_of_nonneg_left (show s + 1 ≤ 256 by omega) (show 0 ≤ M by omega)
    rwa [Int.mul_add, Int.mul_one] at this
  have hl : 0 ≤ M * s := Int.mul_nonneg (by omega) s0
  rw [e, Int.add_mul_emod_self_left, Int.emod_eq_of_lt (by omega) (by omega)]

theorem enc_lt (x y : Int) (hx : 0 ≤ x ∧ x < 256) (hy : 0 ≤ y ∧ y < 256) : (decide (UInt8.ofNat x.toNat < UInt8.ofNat y.toNat)) = decide (x < y) ∧ (UInt8.ofNat x.toNat == UInt8.ofNat y.toNat) = decide (x = y) := by
  have ex : (UInt8.ofNat x.toNat).toNat = x.toNat := by rw [UInt8.toNat_ofNat']; omega
  have ey : (UInt8.ofNat y.toNat).toNat = y.toNat := by rw [UInt8.toNat_ofNat']; omega
  constructor
  · rw [decide_eq_decide, UInt8.lt_iff_toNat_lt, ex, ey]; omega
  · rw [Bool.eq_iff_iff, beq_iff_eq, decide_eq_true_eq]
    constructor
    · intro h; have := congrArg UInt8.toNat h; omega
    · intro h; rw [h]

theorem less_be (a b : Int) (n : Nat) : Op.bytesLess (enc (Oct.be a n)) (enc (Oct.be b n)) = decide (a % 2 ^ (8 * n) < b % 2 ^ (8 * n)) ∧ (enc (Oct.be a n) == enc (Oct.be b n)) = decide (a % 2 ^ (8 * n) = b % 2 ^ (8 * n)) := by
  induction n with
  | zero => simp [Oct.be, enc, Op.bytesLess, Int.emod_one]
  | succ n ih =>
    obtain ⟨ih1, ih2⟩ := ih
    rw [be_step, be_step, show 8 * (n + 1) = 8 * n + 8 by omega, Int.pow_add, show (2 : Int) ^ 8 = 256 by decide]
    have hM : (0 : Int) < 2 ^ (8 * n) := Int.pow_pos (by decide)
    generalize (2 : Int) ^ (8 * n) = M at *
    rw [emod_step a M hM, emod_step b M hM]
    have sa : 0 ≤ a / M % 256 ∧ a / M % 256 < 256 := by omega
    have sb : 0 ≤ b / M % 256 ∧ b / M % 256 < 256 := by omega
    have ra : 0 ≤ a % M ∧ a % M < M := ⟨Int.emod_nonneg a (by omega), Int.emod_lt_of_pos a hM⟩
    have rb : 0 ≤ b % M ∧ b % M < M := ⟨Int.emod_nonneg b (by omega), Int.emod_lt_of_pos b hM⟩
    obtain ⟨e1, e2⟩ := enc_lt _ _ sa sb
    simp only [enc, List.map_cons, Op.bytesLess, List.cons_beq_cons] at ih1 ih2 ⊢
    rw [e1, e2, ih1, ih2]
    clear e1 e2 ih1 ih2
    generalize a / M % 256 = s at *
    generalize b / M % 256 = t at *
    generalize a % M = p at *
    generalize b % M = q at *
    have key : ∀ s t : Int, s < t → M * s + M ≤ M * t := fun s t h => by
      have := Int.mul_le_mul_of_nonneg_left (show s + 1 ≤ t by omega) (show 0 ≤ M by omega)
      rwa [Int.mul_add, Int.mul_one] at this
    rcases Int.lt_trichotomy s t with h | h | h
    · have := key s t h
      constructor
      · rw [decide_eq_true h, Bool.true_or, eq_comm, decide_eq_true_eq]; omega
      · rw [decide_eq_false (show ¬ s = t by omega), Bool.false_and, eq_comm, decide_eq_false_iff_not]; omega
    · subst h
      constructor
      · rw [decide_eq_false (show ¬ s < s by omega), decide_eq_true (rfl : s = s), Bool.false_or, Bool.true_and, decide_eq_decide]; omega
      · rw [decide_eq_true (rfl : s = s), Bool.true_and, decide_eq_decide]; omega
    · have := key t s h
      constructor
      · rw [decide_eq_false (show ¬ s < t by omega), decide_eq_false (show ¬ s = t by omega), Bool.false_or, Bool.false_and, eq_comm, decide_eq_false_iff_not]; omega
      · rw [decide_eq_false (show ¬ s = t by omega), Bool.false_and, eq_comm, decide_eq_false_iff_not]; omega

theorem OctetsOrder : musterlaw01_OctetsOrder.Pure := by
  intro a b wa wb
  have ha := Low.wf_u64 wa
  have hb := Low.wf_u64 wb
  have oa := Oct.okAdd_mk (l := []) (v := a) (n := 8) ha.1 (by omega) (by decide) (by decide) (by decide)
  have ob := Oct.okAdd_mk (l := []) (v := b) (n := 8) hb.1 (by omega) (by decide) (by decide) (by decide)
  obtain ⟨h1, h2⟩ := less_be a b 8
  rw [show (2 : Int) ^ (8 * 8) = 18446744073709551616 by decide, Int.emod_eq_of_lt ha.1 (by omega), Int.emod_eq_of_lt hb.1 (by omega)] at h1 h2
  unfold musterlaw01_OctetsOrder.f octets_Add64.f octets_add.f musterlaw01_awake.f
  rw [if_pos oa, if_pos ob]
  simp only [Option.bind_some, List.nil_append]
  rw [Low.strOfNums_toList, Low.strOfNums_toList]
  have h1' : Op.bytesLess ((Oct.be a (8 : Int).toNat).map fun x => UInt8.ofNat x.toNat) ((Oct.be b (8 : Int).toNat).map fun x => UInt8.ofNat x.toNat) = decide (a < b) := h1
  have h2' : (((Oct.be a (8 : Int).toNat).map fun x => UInt8.ofNat x.toNat) == ((Oct.be b (8 : Int).toNat).map fun x => UInt8.ofNat x.toNat)) = decide (a = b) := h2
  rw [h1', h2', if_pos (beq_self_eq_true _), if_pos (by by_cases h : a = b <;> simp [h]), if_pos ?_]
  rw [strOfNums_size, Oct.be_length]
  rfl
end Go.Proofs.Ytnipddabgedoaaa.Pure
