/- Fields and their bytes, in plain Lean: what is put is read, what is read is what was put. -/
import Derived.Test.YtnhkbjihgepapaaFdP0
import Derived.Test.YtnhkbjihgepapaaFdNum
set_option linter.unusedVariables false
set_option linter.unusedSimpArgs false
namespace Go.Proofs.Ytnhkbjihgepapaa.Fd
open Go.RowKit Go.Proofs.YtnhkbjihgepapaaW.PrintWords Go.Proofs.YtnhkbjihgepapaaW.PrintLast Go.Proofs.YtnhkbjihgepapaaW.PrintMore Go.Proofs.Ytnhkbjihgepapaa.PF Go.Proofs.Ytnhkbjihgepapaa.Oct Go.Proofs.Ytnhkbjihgepapaa.EvK
def Bts (l : List Int) : Prop := ∀ x ∈ l, 0 ≤ x ∧ x ≤ 255
def u64 (n : Int) : Int := IntKind.u64.wrap n
def I64r (n : Int) : Prop := -9223372036854775808 ≤ n ∧ n ≤ 9223372036854775807
theorem u64_range (n : Int) : 0 ≤ u64 n ∧ u64 n < 18446744073709551616 := by unfold u64; rw [IntKind.wrap_u64]; omega
theorem i64_u64 {n : Int} (h : I64r n) : i64 (u64 n) = n := by
  unfold I64r at h
  unfold i64 u64 wrap64
  rw [IntKind.wrap_u64]
  omega
theorem u64_i64 {v : Int} (h0 : 0 ≤ v) (h1 : v < 18446744073709551616) : u64 (i64 v) = v := by
  unfold i64 u64 wrap64
  rw [IntKind.wrap_u64]
  omega
theorem i64_range (v : Int) : I64r (i64 v) := by unfold I64r i64 wrap64; omega
/-- The bytes from p to below q are c. -/
def Seg (l : List Int) (p q : Int) (c : List Int) : Prop := ∃ pre post : List Int, l = pre ++ c ++ post ∧ (pre.length : Int) = p ∧ p + c.length = q
theorem Seg.then_ {l : List Int} {p q r : Int} {a b : List Int} (h : Seg l p q a) (k : Seg l q r b) : Seg l p r (a ++ b) := by
  obtain ⟨pre, post, e, h1, h2⟩ := h
  obtain ⟨pre', post', e', h1', h2'⟩ := k
  have hl : pre'.length = (pre ++ a).length := by rw [List.length_append]; omega
  have he : pre ++ a ++ post = pre' ++ (b ++ post') := by rw [← List.append_assoc, ← e, e']
  obtain ⟨e1, e2⟩ := List.append_inj he hl.symm
  refine ⟨pre, post', ?_, h1, by rw [List.length_append]; omega⟩
  rw [e, e2]
  simp only [List.append_assoc]
theorem Seg.part {l : List Int} {p r : Int} {a b : List Int} (h : Seg l p r (a ++ b)) : ∃ q, Seg l p q a ∧ Seg l q r b ∧ q = p + a.length := by
  obtain ⟨pre, post, e, h1, h2⟩ := h
  rw [List.length_append] at h2
  refine ⟨p + a.length, ⟨pre, b ++ post, by rw [e]; simp only [List.append_assoc], h1, rfl⟩, ⟨pre ++ a, post, by rw [e]; simp only [List.append_assoc], by rw [List.length_append]; omega, by omega⟩, rfl⟩
theorem Seg.nil {l : List Int} {p : Int} (h0 : 0 ≤ p) (h1 : p ≤ l.length) : Seg l p p [] := ⟨l.take p.toNat, l.drop p.toNat, by rw [List.append_nil, List.take_append_drop], by rw [List.length_take]; omega, by simp⟩
theorem Seg.len {l : List Int} {p q : Int} {c : List Int} (h : Seg l p q c) : 0 ≤ p ∧ p + c.length = q ∧ q ≤ l.length := by
  obtain ⟨pre, post, e, h1, h2⟩ := h
  have := congrArg List.length e
  rw [List.length_append, List.length_append] at this
  omega
theorem Seg.same {l : List Int} {p q : Int} {a b : List Int} (h : Seg l p q a) (k : Seg l p q b) : a = b := by
  obtain ⟨pre, post, e, h1, h2⟩ := h
  obtain ⟨pre', post', e', h1', h2'⟩ := k
  have he : pre ++ (a ++ post) = pre' ++ (b ++ post') := by rw [← List.append_assoc, ← List.append_assoc, ← e, ← e']
  obtain ⟨e1, e2⟩ := List.append_inj he (by omega)
  exact (List.append_inj e2 (by omega)).1
/-! ### numbers -/
theorem num_inj : ∀ (a b : List Int), a.length = b.length → Bts a → Bts b → num a = num b → a = b
  | [], [], _, _, _, _ => rfl
  | [], _ :: _, h, _, _, _ => by cases h
  | _ :: _, [], h, _, _, _ => by cases h
  | x :: a, y :: b, h, ha, hb, e => by
    have hl : a.length = b.length := by simpa using h
    rw [num_cons, num_cons, hl] at e
    have hra := num_range a (fun z hz => ha z (List.mem_cons_of_mem _ hz))
    have hrb := num_range b (fun z hz => hb z (List.mem_cons_of_mem _ hz))
    rw [hl] at hra
    obtain ⟨M, hM⟩ : ∃ M : Int, M = 256 ^ b.length := ⟨_, rfl⟩
    rw [← hM] at e hra hrb
    have hxy : x = y := by
      rcases Int.lt_trichotomy x y with h1 | h1 | h1
      · exfalso
        have := Int.mul_le_mul_of_nonneg_right (show x + 1 ≤ y by omega) (show 0 ≤ M by omega)
        rw [Int.add_mul, Int.one_mul] at this
        omega
      · exact h1
      · exfalso
        have := Int.mul_le_mul_of_nonneg_right (show y + 1 ≤ x by omega) (show 0 ≤ M by omega)
        rw [Int.add_mul, Int.one_mul] at this
        omega
    subst hxy
    rw [num_inj a b hl (fun z hz => ha z (List.mem_cons_of_mem _ hz)) (fun z hz => hb z (List.mem_cons_of_mem _ hz)) (by omega)]
theorem pow8 (n : Nat) : (2 : Int) ^ (8 * n) = 256 ^ n := by rw [show (256 : Int) = 2 ^ 8 by decide, ← Int.pow_mul]
theorem be_num (c : List Int) (hc : Bts c) : be (num c) c.length = c := by
  refine num_inj _ _ (be_length _ _) (be_bytes _ _) hc ?_
  have hr := num_range c hc
  rw [num_be, pow8, Int.emod_eq_of_lt hr.1 hr.2]
theorem seg_nok {l : List Int} {p q v : Int} {n : Nat} (h : Seg l p q (be v n)) (h0 : 0 ≤ v) (h1 : v < 256 ^ n) : nok l p n = true ∧ nv l p n = v ∧ q = p + n := by
  obtain ⟨pre, post, e, hp, hq⟩ := h
  rw [be_length] at hq
  subst hp
  rw [e]
  exact ⟨nok_put' pre v n post, nv_put pre v n post h0 (by rw [pow8]; exact h1), hq.symm⟩
theorem nok_seg {l : List Int} (hb : Bts l) {p : Int} {n : Nat} (h : nok l p n = true) : Seg l p (p + n) (be (nv l p n) n) := by
  have hk := nok_iff.1 h
  obtain ⟨i, rfl⟩ := Int.eq_ofNat_of_zero_le hk.1
  have hlen : ((l.drop i).take n).length = n := by rw [List.length_take, List.length_drop]; omega
  have e : be (nv l i n) n = (l.drop i).take n := by
    unfold nv
    rw [if_pos h, Int.toNat_natCast]
    have := be_num ((l.drop i).take n) (fun x hx => hb x (List.mem_of_mem_drop (List.mem_of_mem_take hx)))
    rwa [hlen] at this
  rw [e]
  refine ⟨l.take i, l.drop (i + n), ?_, by rw [List.length_take]; omega, by rw [hlen]⟩
  rw [List.append_assoc, ← List.drop_drop, List.take_append_drop, List.take_append_drop]
/-! ### texts -/
def encT (t : ByteArray) : List Int := be t.size 2 ++ bytesOf t
theorem encT_len (t : ByteArray) : (encT t).length = 2 + t.size := by unfold encT; rw [List.length_append, be_length, bytesOf_length]
theorem str_bytes {c : List Int} (hc : Bts c) : bytesOf (strOfNums c) = c := by
  unfold bytesOf strOfNums
  simp only [List.map_map]
  have : ∀ x ∈ c, ((fun b : UInt8 => (b.toNat : Int)) ∘ fun x : Int => UInt8.ofNat x.toNat) x = x := fun x hx => by
    have := hc x hx
    simp only [Function.comp_apply, UInt8.toNat_ofNat']
    omega
  rw [List.map_congr_left this, List.map_id']
theorem str_size {c : List Int} (hc : Bts c) : (strOfNums c).size = c.length := by rw [← bytesOf_length, str_bytes hc]
theorem seg_tok {l : List Int} {p q : Int} {t : ByteArray} (h : Seg l p q (encT t)) (ht : t.size ≤ 65535) : tok l p = true ∧ strOfNums (txt l p) = t ∧ tend l p = q := by
  obtain ⟨pre, post, e, hp, hq⟩ := h
  rw [encT_len] at hq
  subst hp
  have := text_put pre t post ht
  rw [show pre ++ be t.size 2 ++ (bytesOf t ++ post) = l by rw [e]; unfold encT; simp only [List.append_assoc]] at this
  exact ⟨this.1, by rw [this.2.1, bytesOf_str], by rw [this.2.2]; omega⟩
theorem tok_seg {l : List Int} (hb : Bts l) {p : Int} (h : tok l p = true) : Seg l p (tend l p) (encT (strOfNums (txt l p))) ∧ (strOfNums (txt l p)).size ≤ 65535 := by
  have h' := h
  unfold tok at h'
  rw [Bool.and_eq_true, decide_eq_true_iff] at h'
  have hr := nv_range l hb p 2
  rw [show (256 : Int) ^ 2 = 65536 by decide] at hr
  have h1 := nok_seg hb h'.1
  obtain ⟨hp0, hp1⟩ := nok_iff.1 h'.1
  obtain ⟨i, rfl⟩ := Int.eq_ofNat_of_zero_le hp0
  obtain ⟨m, hm⟩ := Int.eq_ofNat_of_zero_le hr.1
  have et : txt l i = (l.drop (i + 2)).take m := by unfold txt; rw [if_pos h, hm, Int.toNat_natCast, Int.toNat_natCast]
  have hbt : Bts (txt l i) := by rw [et]; exact fun x hx => hb x (List.mem_of_mem_drop (List.mem_of_mem_take hx))
  have hlt : (txt l i).length = m := by rw [et, List.length_take, List.length_drop]; omega
  have hs : (strOfNums (txt l i)).size = m := by rw [str_size hbt, hlt]
  have e2 : tend l i = (i : Int) + 2 + m := by unfold tend; rw [if_pos h, hm]
  refine ⟨?_, by omega⟩
  unfold encT
  rw [str_bytes hbt, hs, e2]
  rw [hm] at h1
  refine h1.then_ ⟨l.take (i + 2), l.drop (i + 2 + m), ?_, by rw [List.length_take]; omega, by rw [hlt]; omega⟩
  rw [et, List.append_assoc, show List.drop (i + 2 + m) l = List.drop m (List.drop (i + 2) l) by rw [List.drop_drop], List.take_append_drop, List.take_append_drop]
/-! ### lists of them -/
def encN (n : Int) : List Int := be (u64 n) 8
theorem ns_read : ∀ (ns : List Int) (l : List Int) (p q : Int) (acc : List Int), (∀ n ∈ ns, I64r n) → Seg l p q (ns.flatMap encN) → nsF l ns.length p acc = some (acc ++ ns, q)
  | [], l, p, q, acc, _, h => by
    have := h.len
    simp only [List.flatMap_nil, List.length_nil] at this
    rw [List.append_nil, show q = p by omega]
    rfl
  | n :: ns, l, p, q, acc, hr, h => by
    rw [List.flatMap_cons] at h
    obtain ⟨q1, h1, h2, e⟩ := h.part
    have hu := u64_range n
    obtain ⟨a1, a2, a3⟩ := seg_nok h1 hu.1 (by rw [show (256 : Int) ^ 8 = 18446744073709551616 by decide +kernel]; exact hu.2)
    rw [List.length_cons, nsF, if_pos a1, a2, i64_u64 (hr n (List.mem_cons_self ..))]
    rw [a3] at h2
    rw [show p + 8 = p + ((8 : Nat) : Int) from rfl, ns_read ns l _ q _ (fun m hm => hr m (List.mem_cons_of_mem _ hm)) h2, List.append_assoc]
    rfl
theorem ns_seg {l : List Int} (hb : Bts l) : ∀ (k : Nat) (p q : Int) (acc out : List Int), 0 ≤ p → p ≤ l.length → nsF l k p acc = some (out, q) → ∃ ns, out = acc ++ ns ∧ ns.length = k ∧ (∀ n ∈ ns, I64r n) ∧ Seg l p q (ns.flatMap encN)
  | 0, p, q, acc, out, h0, h1, h => by
    simp only [nsF, Option.some.injEq, Prod.mk.injEq] at h
    obtain ⟨rfl, rfl⟩ := h
    exact ⟨[], (List.append_nil _).symm, rfl, fun _ h => (List.not_mem_nil h).elim, Seg.nil h0 h1⟩
  | k + 1, p, q, acc, out, h0, h1, h => by
    rw [nsF] at h
    by_cases hk : nok l p 8 = true
    · rw [if_pos hk] at h
      have hn := nok_iff.1 hk
      have hs := nok_seg hb hk
      have hr := nv_range l hb p 8
      rw [show (256 : Int) ^ 8 = 18446744073709551616 by decide +kernel] at hr
      obtain ⟨ns, e1, e2, e3, e4⟩ := ns_seg hb k (p + 8) q _ out (by omega) (by omega) h
      refine ⟨i64 (nv l p 8) :: ns, by rw [e1, List.append_assoc]; rfl, by rw [List.length_cons, e2], fun m hm => ?_, ?_⟩
      · rcases List.mem_cons.1 hm with rfl | hm
        · exact i64_range _
        · exact e3 m hm
      · rw [List.flatMap_cons]
        refine Seg.then_ ?_ e4
        unfold encN
        rw [u64_i64 hr.1 hr.2]
        exact hs
    · rw [if_neg hk] at h
      cases h
theorem ts_read : ∀ (ts : List ByteArray) (l : List Int) (p q : Int) (acc : List ByteArray), (∀ t ∈ ts, t.size ≤ 65535) → Seg l p q (ts.flatMap encT) → tsF l ts.length p acc = some (acc ++ ts, q)
  | [], l, p, q, acc, _, h => by
    have := h.len
    simp only [List.flatMap_nil, List.length_nil] at this
    rw [List.append_nil, show q = p by omega]
    rfl
  | t :: ts, l, p, q, acc, hr, h => by
    rw [List.flatMap_cons] at h
    obtain ⟨q1, h1, h2, e⟩ := h.part
    obtain ⟨a1, a2, a3⟩ := seg_tok h1 (hr t (List.mem_cons_self ..))
    rw [List.length_cons, tsF, if_pos a1, a2, a3, ts_read ts l _ q _ (fun m hm => hr m (List.mem_cons_of_mem _ hm)) h2, List.append_assoc]
    rfl
theorem ts_seg {l : List Int} (hb : Bts l) : ∀ (k : Nat) (p q : Int) (acc out : List ByteArray), 0 ≤ p → p ≤ l.length → tsF l k p acc = some (out, q) → ∃ ts, out = acc ++ ts ∧ ts.length = k ∧ (∀ t ∈ ts, t.size ≤ 65535) ∧ Seg l p q (ts.flatMap encT)
  | 0, p, q, acc, out, h0, h1, h => by
    simp only [tsF, Option.some.injEq, Prod.mk.injEq] at h
    obtain ⟨rfl, rfl⟩ := h
    exact ⟨[], (List.append_nil _).symm, rfl, fun _ h => (List.not_mem_nil h).elim, Seg.nil h0 h1⟩
  | k + 1, p, q, acc, out, h0, h1, h => by
    rw [tsF] at h
    by_cases hk : tok l p = true
    · rw [if_pos hk] at h
      obtain ⟨hs, hz⟩ := tok_seg hb hk
      have hn := hs.len
      obtain ⟨ts, e1, e2, e3, e4⟩ := ts_seg hb k (tend l p) q _ out (by omega) (by omega) h
      refine ⟨strOfNums (txt l p) :: ts, by rw [e1, List.append_assoc]; rfl, by rw [List.length_cons, e2], fun m hm => ?_, ?_⟩
      · rcases List.mem_cons.1 hm with rfl | hm
        · exact hz
        · exact e3 m hm
      · rw [List.flatMap_cons]
        exact hs.then_ e4
    · rw [if_neg hk] at h
      cases h
end Go.Proofs.Ytnhkbjihgepapaa.Fd
