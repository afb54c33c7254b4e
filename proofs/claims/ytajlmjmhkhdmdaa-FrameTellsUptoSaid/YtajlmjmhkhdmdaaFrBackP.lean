/- Frames put one behind the other, and one turned bit: the plain law. -/
import Derived.Test.YtajlmjmhkhdmdaaFrPut
set_option linter.unusedVariables false
set_option linter.unusedSimpArgs false
namespace Go.Proofs.Ytajlmjmhkhdmdaa.PF
open Go.RowKit Go.Proofs.YtajlmjmhkhdmdaaW.PrintWords Go.Proofs.YtajlmjmhkhdmdaaW.PrintLast Go.Proofs.YtajlmjmhkhdmdaaW.PrintMore
open Oct (be be_length nv nok num)
/-- A frame that may be put. -/
def okF (f : Fr) : Bool := decide (f.f1.length < 65536)
def byF (f : Fr) : Prop := (0 ≤ f.f0 ∧ f.f0 ≤ 255) ∧ Bytes f.f1
def putAll_ : List Fr → List Int
  | [] => []
  | f :: l => putF f.f0 f.f1 ++ putAll_ l
theorem putAll_append (l m : List Fr) : putAll_ (l ++ m) = putAll_ l ++ putAll_ m := by
  induction l with
  | nil => rfl
  | cons f l ih => simp only [List.cons_append, putAll_, ih, List.append_assoc]
theorem putAll_bytes (l : List Fr) (h : ∀ f ∈ l, byF f) : Bytes (putAll_ l) := by
  induction l with
  | nil => intro x hx; cases hx
  | cons f l ih => exact (putF_bytes (h f List.mem_cons_self).2).append (ih (fun g hg => h g (List.mem_cons_of_mem _ hg)))
theorem putAll_length (l : List Fr) (h : ∀ f ∈ l, okF f = true) : (putAll_ l).length ≤ 65544 * l.length := by
  induction l with
  | nil => exact Nat.zero_le _
  | cons f l ih =>
    have h1 := ih (fun g hg => h g (List.mem_cons_of_mem _ hg))
    have h2 := of_decide_eq_true (h f List.mem_cons_self)
    simp only [putAll_, List.length_append, putF_length, List.length_cons]
    omega
theorem feed_all (l : List Fr) (r : List Int) (h : ∀ f ∈ l, byF f ∧ okF f = true) : feedF (putAll_ l ++ r) = (l ++ (feedF r).1, (feedF r).2) := by
  induction l with
  | nil => simp [putAll_]
  | cons f l ih =>
    have hf := h f List.mem_cons_self
    simp only [putAll_, List.append_assoc]
    rw [feed_put f.f0 f.f1 _ hf.1.1 (of_decide_eq_true hf.2), ih (fun g hg => h g (List.mem_cons_of_mem _ hg))]
    rfl
/-- Four bytes are a number's. -/
theorem be_num (l : List Int) (h : Bytes l) : be (num l) l.length = l := by
  induction l with
  | nil => rfl
  | cons c l ih =>
    have hb : Bytes l := fun x hx => h x (List.mem_cons_of_mem _ hx)
    have hc := h c List.mem_cons_self
    have hr := Oct.num_range l hb
    have hp : (2 : Int) ^ (8 * l.length) = 256 ^ l.length := by rw [Int.pow_mul]; rfl
    have hpos : (0 : Int) < 256 ^ l.length := Int.pow_pos (by decide)
    rw [List.length_cons, Oct.be_step, hp, Oct.num_cons]
    have e1 : (c * 256 ^ l.length + num l) / 256 ^ l.length % 256 = c := by
      rw [Int.add_comm, Int.add_mul_ediv_right _ _ (by omega), Int.ediv_eq_zero_of_lt hr.1 hr.2]
      omega
    have e2 : be (c * 256 ^ l.length + num l) l.length = be (num l) l.length := by
      apply List.ext_getElem
      · simp [be_length]
      · intro i h1 h2
        rw [be_length] at h1
        simp only [be, List.getElem_map, List.getElem_range]
        have hq : (0 : Int) < 2 ^ (8 * (l.length - 1 - i)) := Int.pow_pos (by decide)
        have hk : c * 256 ^ l.length = (c * 2 ^ (8 * i) * 256) * 2 ^ (8 * (l.length - 1 - i)) := by
          rw [← hp, show 8 * l.length = 8 * i + 8 + 8 * (l.length - 1 - i) by omega, Int.pow_add, Int.pow_add, show (2 : Int) ^ 8 = 256 by decide]
          simp only [Int.mul_assoc]
        rw [hk, Int.add_comm, Int.add_mul_ediv_right _ _ (by omega), Int.add_mul_emod_self_right]
    rw [e1, e2, ih hb]
theorem one_turn (n : Nat) (mid : List Int) (r : List Int) (off : Nat) (y : Int) (hm : mid.length = n) (h1 : 1 ≤ n) (h2 : n ≤ 65536) (hb : Bytes mid) (ho : off < n + 4) (hy : 0 ≤ y ∧ y ≤ 255) (hne : y ≠ (mid ++ be (crc mid) 4).getD off 0) :
    feedF (be n 4 ++ (mid ++ be (crc mid) 4).set off y ++ r) = ([], true, []) := by
  have hcr := crc_range mid
  by_cases hlt : off < n
  · have e1 : (mid ++ be (crc mid) 4).set off y = mid.set off y ++ be (crc mid) 4 := by rw [List.set_append_left _ _ (by omega)]
    have hb2 : Bytes (mid.set off y) := fun x hx => by
      rcases List.mem_or_eq_of_mem_set hx with hx | rfl
      · exact hb x hx
      · exact hy
    rw [e1, ← List.append_assoc, feed_form n (mid.set off y) (crc mid) r (by rw [List.length_set]; exact hm) h1 h2 hcr, if_neg]
    intro hc
    have hx : (mid ++ be (crc mid) 4).getD off 0 = mid[off]'(by omega) := by
      rw [List.getD_eq_getElem?_getD, List.getElem?_append_left (by omega), List.getElem?_eq_getElem (by omega)]
      rfl
    rw [hx] at hne
    have hsp : mid = mid.take off ++ ([mid[off]'(by omega)] ++ mid.drop (off + 1)) := by
      rw [List.singleton_append, ← List.drop_eq_getElem_cons, List.take_append_drop]
    have hst : mid.set off y = mid.take off ++ ([y] ++ mid.drop (off + 1)) := by
      rw [List.set_eq_take_append_cons_drop, if_pos (by omega)]
      rfl
    unfold crc at hc
    have hc2 : Sums.more 0 mid = Sums.more 0 (mid.set off y) := BitVec.eq_of_toNat_eq (by omega)
    rw [hst] at hc2
    have hc3 : Sums.more 0 (mid.take off ++ ([mid[off]'(by omega)] ++ mid.drop (off + 1))) = Sums.more 0 (mid.take off ++ ([y] ++ mid.drop (off + 1))) := by rw [← hsp]; exact hc2
    have := Sums.more_burst 0 (mid.take off) [mid[off]'(by omega)] [y] (mid.drop (off + 1)) (fun x hx => by rw [List.mem_singleton.1 hx]; exact hb _ (List.getElem_mem _)) (fun x hx => by rw [List.mem_singleton.1 hx]; exact hy) rfl (by simp) hc3
    injection this with this
    exact hne this.symm
  · have e1 : (mid ++ be (crc mid) 4).set off y = mid ++ (be (crc mid) 4).set (off - n) y := by rw [List.set_append_right _ _ (by omega), hm]
    have hb4 : Bytes ((be (crc mid) 4).set (off - n) y) := fun x hx => by
      rcases List.mem_or_eq_of_mem_set hx with hx | rfl
      · exact Oct.be_bytes _ _ x hx
      · exact hy
    have hl4 : ((be (crc mid) 4).set (off - n) y).length = 4 := by rw [List.length_set, be_length]
    have hr4 := Oct.num_range _ hb4
    rw [hl4] at hr4
    have hn4 := be_num _ hb4
    rw [hl4] at hn4
    rw [e1, ← List.append_assoc, ← hn4, feed_form n mid _ r hm h1 h2 ⟨hr4.1, by have := hr4.2; omega⟩, if_neg]
    intro hc
    rw [hc] at hn4
    have hg : (be (crc mid) 4).getD (off - n) 0 = y := by
      have h := congrArg (fun l => l.getD (off - n) 0) hn4
      simp only [List.getD_eq_getElem?_getD, List.getElem?_set, be_length] at h ⊢
      rw [if_pos trivial, if_pos (by omega)] at h
      exact h
    apply hne
    rw [List.getD_eq_getElem?_getD, List.getElem?_append_right (by omega), hm, ← List.getD_eq_getElem?_getD, hg]
/-- A byte of a frame behind its length is turned: those ahead of it are told, and it breaks. -/
theorem turned (fs : List Fr) (h : ∀ f ∈ fs, byF f ∧ okF f = true) (j : Nat) (hj : j < fs.length) (off : Nat) (ho : off < fs[j].f1.length + 5) (y : Int) (hy : 0 ≤ y ∧ y ≤ 255)
    (hne : y ≠ (putAll_ fs).getD ((putAll_ (fs.take j)).length + 4 + off) 0) :
    (putAll_ (fs.take j)).length + 4 + off < (putAll_ fs).length ∧ feedF ((putAll_ fs).set ((putAll_ (fs.take j)).length + 4 + off) y) = (fs.take j, true, []) := by
  have hf := h fs[j] (List.getElem_mem hj)
  have hlen := of_decide_eq_true hf.2
  obtain ⟨k, l, hkl⟩ : ∃ k l, fs[j] = (⟨k, l⟩ : Fr) := ⟨fs[j].f0, fs[j].f1, rfl⟩
  rw [hkl] at hf hlen ho
  replace ho : off < l.length + 5 := ho
  replace hlen : l.length < 65536 := hlen
  have e0 : fs = fs.take j ++ (fs[j] :: fs.drop (j + 1)) := by rw [← List.drop_eq_getElem_cons, List.take_append_drop]
  have e1 : putAll_ fs = putAll_ (fs.take j) ++ (be ((1 + l.length : Nat) : Int) 4 ++ ((innerF k l ++ be (crc (innerF k l)) 4) ++ putAll_ (fs.drop (j + 1)))) := by
    conv => lhs; rw [e0, putAll_append]
    rw [hkl]
    congr 1
    all_goals
      show putF k l ++ _ = _
      unfold putF
      rw [show (1 + (l.length : Int)) = ((1 + l.length : Nat) : Int) by omega]
      (try simp only [List.append_assoc])
  have hm : (innerF k l).length = 1 + l.length := inner_length k l
  have hmc : (innerF k l ++ be (crc (innerF k l)) 4).length = l.length + 5 := by rw [List.length_append, hm, be_length]; omega
  have hb4 : (be ((1 + l.length : Nat) : Int) 4).length = 4 := be_length _ _
  have e2 : (putAll_ fs).set ((putAll_ (fs.take j)).length + 4 + off) y = putAll_ (fs.take j) ++ (be ((1 + l.length : Nat) : Int) 4 ++ (innerF k l ++ be (crc (innerF k l)) 4).set off y ++ putAll_ (fs.drop (j + 1))) := by
    rw [e1, List.set_append_right _ _ (by omega), show (putAll_ (fs.take j)).length + 4 + off - (putAll_ (fs.take j)).length = 4 + off by omega, List.set_append_right _ _ (by rw [hb4]; omega), hb4, show 4 + off - 4 = off by omega, List.set_append_left _ _ (by rw [hmc]; exact ho), List.append_assoc]
  have e3 : (putAll_ fs).getD ((putAll_ (fs.take j)).length + 4 + off) 0 = (innerF k l ++ be (crc (innerF k l)) 4).getD off 0 := by
    rw [e1, List.getD_eq_getElem?_getD, List.getElem?_append_right (by omega), show (putAll_ (fs.take j)).length + 4 + off - (putAll_ (fs.take j)).length = 4 + off by omega, List.getElem?_append_right (by rw [hb4]; omega), hb4, show 4 + off - 4 = off by omega, List.getElem?_append_left (by rw [hmc]; exact ho), ← List.getD_eq_getElem?_getD]
  rw [e3] at hne
  refine ⟨by rw [e1]; simp only [List.length_append, hmc, hb4]; omega, ?_⟩
  have hone := one_turn (1 + l.length) (innerF k l) (putAll_ (fs.drop (j + 1))) off y hm (by omega) (by omega) (inner_bytes hf.1.2) (by omega) hy hne
  rw [e2, feed_all _ _ (fun g hg => h g (List.mem_of_mem_take hg)), hone, List.append_nil]
/-- One bit of a byte, turned. -/
theorem xor_bit (a : Int) (ha : 0 ≤ a ∧ a ≤ 255) (n : Nat) (hn : n < 8) : (0 ≤ Go.bits .xor .u8 a (2 ^ n) ∧ Go.bits .xor .u8 a (2 ^ n) ≤ 255) ∧ Go.bits .xor .u8 a (2 ^ n) ≠ a := by
  have h2 : (0 : Int) ≤ 2 ^ n ∧ (2 : Int) ^ n ≤ 255 ∧ (2 : Int) ^ n ≠ 0 := by
    match n, hn with
    | 0, _ => decide
    | 1, _ => decide
    | 2, _ => decide
    | 3, _ => decide
    | 4, _ => decide
    | 5, _ => decide
    | 6, _ => decide
    | 7, _ => decide
  obtain ⟨h3, h4, h5⟩ := Sums.xor_byte a (2 ^ n) ha ⟨h2.1, h2.2.1⟩
  refine ⟨⟨h4, h5⟩, fun he => ?_⟩
  rw [he] at h3
  have h6 : BitVec.ofInt 32 ((2 : Int) ^ n) = 0#32 := by
    have := congrArg (fun z => BitVec.ofInt 32 a ^^^ z) h3
    simpa [← BitVec.xor_assoc] using this.symm
  have h7 := congrArg BitVec.toNat h6
  rw [BitVec.toNat_ofInt] at h7
  simp at h7
  omega
end Go.Proofs.Ytajlmjmhkhdmdaa.PF
