/- Right fields and their bytes: put and read, in plain Lean. -/
import Derived.Test.YtnhkbjihgepapaaFdSeg
import Derived.Lib.Strings
import Derived.Test.YtnhkbjihgepapaaPFx11
set_option linter.unusedVariables false
set_option linter.unusedSimpArgs false
namespace Go.Proofs.Ytnhkbjihgepapaa.Fd
open Go.RowKit Go.Proofs.YtnhkbjihgepapaaW.PrintWords Go.Proofs.YtnhkbjihgepapaaW.PrintLast Go.Proofs.YtnhkbjihgepapaaW.PrintMore Go.Proofs.Ytnhkbjihgepapaa.PF Go.Proofs.Ytnhkbjihgepapaa.Oct Go.Proofs.Ytnhkbjihgepapaa.EvK
theorem toL_inj {a b : ByteArray} (h : a.toList = b.toList) : a = b := by
  rw [Lib.toList_data, Lib.toList_data] at h
  cases a
  cases b
  congr 1
  exact Array.toList_inj.1 h
/-- What may come in. -/
def Wf (x : Fl) : Prop := (0 ≤ x.f0 ∧ x.f0 ≤ 255) ∧ I64r x.f2 ∧ ∀ n ∈ x.f4, I64r n
theorem empty_iff (s : ByteArray) : s.toList.isEmpty = true ↔ s = ⟨#[]⟩ := by
  rw [List.isEmpty_iff]
  constructor
  · intro h
    refine toL_inj (h.trans ?_)
    decide +kernel
  · rintro rfl
    decide +kernel
theorem right_cases {x : Fl} (h : rightX x = true) :
    (x.f1 = 1 ∧ x = ⟨x.f0, 1, x.f2, ⟨#[]⟩, [], []⟩) ∨ (x.f1 = 2 ∧ x = ⟨x.f0, 2, 0, x.f3, [], []⟩ ∧ x.f3.size ≤ 65535) ∨ (x.f1 = 3 ∧ x = ⟨x.f0, 3, 0, ⟨#[]⟩, x.f4, []⟩ ∧ x.f4.length ≤ 256) ∨ (x.f1 = 4 ∧ x = ⟨x.f0, 4, 0, ⟨#[]⟩, [], x.f5⟩ ∧ x.f5.length ≤ 256 ∧ ∀ t ∈ x.f5, t.size ≤ 65535) := by
  obtain ⟨a, k, n, s, ns, ts⟩ := x
  unfold rightX rightF at h
  simp only at h ⊢
  have hns : ∀ l : List Int, (!decide (0 < l.length)) = true → l = [] := fun l h => by
    rw [Bool.not_eq_true', decide_eq_false_iff_not] at h
    exact List.eq_nil_of_length_eq_zero (by omega)
  have hts : ∀ l : List ByteArray, (!decide (0 < l.length)) = true → l = [] := fun l h => by
    rw [Bool.not_eq_true', decide_eq_false_iff_not] at h
    exact List.eq_nil_of_length_eq_zero (by omega)
  by_cases k1 : k = 1
  · rw [if_pos k1] at h
    subst k1
    simp only [Bool.and_eq_true] at h
    obtain ⟨⟨⟨h1, h2⟩, h3⟩, h4⟩ := h
    rw [Bool.not_not, empty_iff] at h2
    rw [hns _ h3, hts _ h4, h2]
    exact Or.inl ⟨rfl, rfl⟩
  rw [if_neg k1] at h
  by_cases k2 : k = 2
  · rw [if_pos k2] at h
    subst k2
    simp only [Bool.and_eq_true] at h
    obtain ⟨⟨⟨⟨h1, h2⟩, h3⟩, h4⟩, h5⟩ := h
    have hn : n = 0 := by simpa using h2
    rw [hns _ h3, hts _ h4, hn]
    exact Or.inr (Or.inl ⟨rfl, rfl, by have := of_decide_eq_true h5; omega⟩)
  rw [if_neg k2] at h
  by_cases k3 : k = 3
  · rw [if_pos k3] at h
    subst k3
    simp only [Bool.and_eq_true] at h
    obtain ⟨⟨⟨⟨h1, h2⟩, h3⟩, h4⟩, h5⟩ := h
    have hn : n = 0 := by simpa using h2
    rw [Bool.not_not, empty_iff] at h3
    rw [hts _ h4, hn, h3]
    exact Or.inr (Or.inr (Or.inl ⟨rfl, rfl, by have := of_decide_eq_true h5; omega⟩))
  rw [if_neg k3] at h
  by_cases k4 : k = 4
  · rw [if_pos k4] at h
    subst k4
    simp only [Bool.and_eq_true] at h
    obtain ⟨⟨⟨⟨⟨h1, h2⟩, h3⟩, h4⟩, h5⟩, h6⟩ := h
    have hn : n = 0 := by simpa using h2
    rw [Bool.not_not, empty_iff] at h3
    rw [hns _ h4, hn, h3]
    refine Or.inr (Or.inr (Or.inr ⟨rfl, rfl, by have := of_decide_eq_true h5; omega, fun t ht => ?_⟩))
    rw [Bool.not_eq_true'] at h6
    have := List.any_eq_false.1 h6 t ht
    unfold longS at this
    simpa using this
  · rw [if_neg k4] at h
    cases h
/-- A field's bytes. -/
def tailX (x : Fl) : List Int := if x.f1 = 1 then encN x.f2 else if x.f1 = 2 then encT x.f3 else if x.f1 = 3 then be x.f4.length 2 ++ x.f4.flatMap encN else if x.f1 = 4 then be x.f5.length 2 ++ x.f5.flatMap encT else []
def putX (x : Fl) : List Int := [x.f0, x.f1] ++ tailX x
theorem be1 {v : Int} (h0 : 0 ≤ v) (h1 : v ≤ 255) : be v 1 = [v] := by
  have : be v 1 = [v / 2 ^ 0 % 256] := rfl
  rw [this]
  congr 1
  omega
theorem kind_range {x : Fl} (h : rightX x = true) : 1 ≤ x.f1 ∧ x.f1 ≤ 4 := by
  rcases right_cases h with h | h | h | h <;> omega
theorem head_eq {x : Fl} (hx : rightX x = true) (hw : Wf x) : putX x = be x.f0 1 ++ (be x.f1 1 ++ tailX x) := by
  have hk := kind_range hx
  rw [be1 hw.1.1 hw.1.2, be1 (by omega) (by omega)]
  rfl
/-- What was put is read. -/
theorem one_read {x : Fl} (hx : rightX x = true) (hw : Wf x) {l : List Int} {p q : Int} (h : Seg l p q (putX x)) : oneF l p = some (x, q) := by
  have hk := kind_range hx
  rw [head_eq hx hw] at h
  obtain ⟨q1, h1, h, _⟩ := h.part
  obtain ⟨q2, h2, h, _⟩ := h.part
  obtain ⟨a1, a2, a3⟩ := seg_nok h1 hw.1.1 (by have := hw.1.2; omega)
  subst a3
  obtain ⟨b1, b2, b3⟩ := seg_nok h2 (by omega) (by omega)
  subst b3
  rw [show p + ((1 : Nat) : Int) + ((1 : Nat) : Int) = p + 2 by omega] at h
  rw [show p + ((1 : Nat) : Int) = p + 1 by omega] at b1 b2
  unfold oneF
  rw [if_pos a1, if_pos b1, a2, b2]
  rcases right_cases hx with ⟨e, ex⟩ | ⟨e, ex, hs⟩ | ⟨e, ex, hs⟩ | ⟨e, ex, hs, hs2⟩
  · unfold tailX at h
    rw [if_pos e] at h
    have hu := u64_range x.f2
    obtain ⟨c1, c2, c3⟩ := seg_nok h hu.1 (by rw [show (256 : Int) ^ 8 = 18446744073709551616 by decide +kernel]; exact hu.2)
    unfold bodyF
    rw [if_pos e, if_pos c1, c2, i64_u64 hw.2.1, c3, e, ← ex]
    rfl
  · unfold tailX at h
    rw [if_neg (by omega), if_pos e] at h
    obtain ⟨c1, c2, c3⟩ := seg_tok h hs
    unfold bodyF
    rw [if_neg (by omega), if_pos e, if_pos c1, c2, c3, e, ← ex]
  · unfold tailX at h
    rw [if_neg (by omega), if_neg (by omega), if_pos e] at h
    obtain ⟨q3, h3, h, _⟩ := h.part
    obtain ⟨c1, c2, c3⟩ := seg_nok h3 (by omega) (by rw [show (256 : Int) ^ 2 = 65536 by decide]; omega)
    have := ns_read x.f4 l q3 q [] hw.2.2 h
    rw [c3, List.nil_append] at this
    unfold bodyF
    rw [if_neg (by omega), if_neg (by omega), if_pos e, if_pos c1, c2, Int.toNat_natCast, show p + 2 + 2 = p + 2 + ((2 : Nat) : Int) from rfl, this]
    simp only
    rw [e, ← ex]
  · unfold tailX at h
    rw [if_neg (by omega), if_neg (by omega), if_neg (by omega), if_pos e] at h
    obtain ⟨q3, h3, h, _⟩ := h.part
    obtain ⟨c1, c2, c3⟩ := seg_nok h3 (by omega) (by rw [show (256 : Int) ^ 2 = 65536 by decide]; omega)
    have := ts_read x.f5 l q3 q [] hs2 h
    rw [c3, List.nil_append] at this
    unfold bodyF
    rw [if_neg (by omega), if_neg (by omega), if_neg (by omega), if_pos e, if_pos c1, c2, Int.toNat_natCast, show p + 2 + 2 = p + 2 + ((2 : Nat) : Int) from rfl, this]
    simp only
    rw [e, ← ex]
/-- What is read, and right, is what was put. -/
theorem one_seg {l : List Int} (hb : Bts l) {p q : Int} {x : Fl} (h : oneF l p = some (x, q)) (hx : rightX x = true) : Wf x ∧ Seg l p q (putX x) := by
  unfold oneF at h
  by_cases c1 : nok l p 1 = true
  case neg => rw [if_neg c1] at h; cases h
  rw [if_pos c1] at h
  by_cases c2 : nok l (p + 1) 1 = true
  case neg => rw [if_neg c2] at h; cases h
  rw [if_pos c2] at h
  have s1 := nok_seg hb c1
  have s2 := nok_seg hb c2
  have r1 := nv_range l hb p 1
  have r2 := nv_range l hb (p + 1) 1
  have l2 := s2.len
  rw [show p + 1 + ((1 : Nat) : Int) = p + 2 by omega] at s2 l2
  have s12 := s1.then_ s2
  rw [be1 r1.1 (by omega), be1 r2.1 (by omega)] at s12
  have l1 := s1.len
  have key : ∀ (c : List Int), x.f0 = nv l p 1 → x.f1 = nv l (p + 1) 1 → tailX x = c → Seg l (p + 2) q c → Seg l p q (putX x) := fun c e0 e1 e2 hs => by
    unfold putX
    rw [e0, e1, e2]
    exact s12.then_ hs
  have hw0 : ∀ (e0 : x.f0 = nv l p 1), 0 ≤ x.f0 ∧ x.f0 ≤ 255 := fun e0 => by rw [e0]; omega
  unfold bodyF at h
  by_cases k1 : nv l (p + 1) 1 = 1
  · rw [if_pos k1] at h
    by_cases c3 : nok l (p + 2) 8 = true
    case neg => rw [if_neg c3] at h; cases h
    rw [if_pos c3, Option.some.injEq, Prod.mk.injEq] at h
    obtain ⟨rfl, rfl⟩ := h
    have r3 := nv_range l hb (p + 2) 8
    rw [show (256 : Int) ^ 8 = 18446744073709551616 by decide +kernel] at r3
    have s3 := nok_seg hb c3
    refine ⟨⟨hw0 rfl, i64_range _, fun n hn => (List.not_mem_nil hn).elim⟩, key _ rfl rfl rfl ?_⟩
    unfold tailX encN
    simp only
    rw [if_pos k1, u64_i64 r3.1 r3.2]
    exact s3
  rw [if_neg k1] at h
  by_cases k2 : nv l (p + 1) 1 = 2
  · rw [if_pos k2] at h
    by_cases c3 : tok l (p + 2) = true
    case neg => rw [if_neg c3] at h; cases h
    rw [if_pos c3, Option.some.injEq, Prod.mk.injEq] at h
    obtain ⟨rfl, rfl⟩ := h
    refine ⟨⟨hw0 rfl, by unfold I64r; simp only; omega, fun n hn => (List.not_mem_nil hn).elim⟩, key _ rfl rfl rfl ?_⟩
    unfold tailX
    simp only
    rw [if_neg k1, if_pos k2]
    exact (tok_seg hb c3).1
  rw [if_neg k2] at h
  by_cases k3 : nv l (p + 1) 1 = 3
  · rw [if_pos k3] at h
    by_cases c3 : nok l (p + 2) 2 = true
    case neg => rw [if_neg c3] at h; cases h
    rw [if_pos c3] at h
    have s3 := nok_seg hb c3
    have l3 := s3.len
    have r3 := nv_range l hb (p + 2) 2
    cases hn : nsF l (nv l (p + 2) 2).toNat (p + 2 + 2) [] with
    | none => rw [hn] at h; cases h
    | some r =>
      obtain ⟨o, q'⟩ := r
      rw [hn] at h
      simp only [Option.some.injEq, Prod.mk.injEq] at h
      obtain ⟨rfl, rfl⟩ := h
      obtain ⟨ns, e1, e2, e3, e4⟩ := ns_seg hb _ _ _ _ _ (by omega) (by omega) hn
      rw [List.nil_append] at e1
      subst e1
      refine ⟨⟨hw0 rfl, by unfold I64r; simp only; omega, e3⟩, key _ rfl rfl rfl ?_⟩
      unfold tailX
      simp only
      rw [if_neg k1, if_neg k2, if_pos k3, e2, Int.toNat_of_nonneg r3.1]
      exact s3.then_ e4
  rw [if_neg k3] at h
  by_cases k4 : nv l (p + 1) 1 = 4
  · rw [if_pos k4] at h
    by_cases c3 : nok l (p + 2) 2 = true
    case neg => rw [if_neg c3] at h; cases h
    rw [if_pos c3] at h
    have s3 := nok_seg hb c3
    have l3 := s3.len
    have r3 := nv_range l hb (p + 2) 2
    cases hn : tsF l (nv l (p + 2) 2).toNat (p + 2 + 2) [] with
    | none => rw [hn] at h; cases h
    | some r =>
      obtain ⟨o, q'⟩ := r
      rw [hn] at h
      simp only [Option.some.injEq, Prod.mk.injEq] at h
      obtain ⟨rfl, rfl⟩ := h
      obtain ⟨ts, e1, e2, e3, e4⟩ := ts_seg hb _ _ _ _ _ (by omega) (by omega) hn
      rw [List.nil_append] at e1
      subst e1
      refine ⟨⟨hw0 rfl, by unfold I64r; simp only; omega, fun n hn => (List.not_mem_nil hn).elim⟩, key _ rfl rfl rfl ?_⟩
      unfold tailX
      simp only
      rw [if_neg k1, if_neg k2, if_neg k3, if_pos k4, e2, Int.toNat_of_nonneg r3.1]
      exact s3.then_ e4
  · rw [if_neg k4, Option.some.injEq, Prod.mk.injEq] at h
    obtain ⟨rfl, rfl⟩ := h
    have := kind_range hx
    simp only at this
    omega
theorem all_read : ∀ (fs : List Fl) (l : List Int) (p q : Int) (acc : List Fl), (∀ x ∈ fs, rightX x = true ∧ Wf x) → Seg l p q (fs.flatMap putX) → allL l fs.length p acc = some (acc ++ fs, q)
  | [], l, p, q, acc, _, h => by
    have := h.len
    simp only [List.flatMap_nil, List.length_nil] at this
    rw [List.append_nil, show q = p by omega]
    rfl
  | x :: fs, l, p, q, acc, hr, h => by
    rw [List.flatMap_cons] at h
    obtain ⟨q1, h1, h2, e⟩ := h.part
    have hx := hr x (List.mem_cons_self ..)
    rw [List.length_cons, allL, one_read hx.1 hx.2 h1]
    simp only
    rw [all_read fs l _ q _ (fun m hm => hr m (List.mem_cons_of_mem _ hm)) h2, List.append_assoc]
    rfl
theorem all_seg {l : List Int} (hb : Bts l) : ∀ (k : Nat) (p q : Int) (acc out : List Fl), 0 ≤ p → p ≤ l.length → allL l k p acc = some (out, q) → (∀ x ∈ out, rightX x = true) → ∃ fs, out = acc ++ fs ∧ fs.length = k ∧ (∀ x ∈ fs, rightX x = true ∧ Wf x) ∧ Seg l p q (fs.flatMap putX)
  | 0, p, q, acc, out, h0, h1, h, _ => by
    simp only [allL, Option.some.injEq, Prod.mk.injEq] at h
    obtain ⟨rfl, rfl⟩ := h
    exact ⟨[], (List.append_nil _).symm, rfl, fun _ h => (List.not_mem_nil h).elim, Seg.nil h0 h1⟩
  | k + 1, p, q, acc, out, h0, h1, h, hr => by
    rw [allL] at h
    cases ho : oneF l p with
    | none => rw [ho] at h; cases h
    | some r =>
      obtain ⟨x, p'⟩ := r
      rw [ho] at h
      simp only at h
      have hmem : ∀ (k : Nat) (p : Int) (acc out : List Fl) (q : Int), allL l k p acc = some (out, q) → ∀ y ∈ acc, y ∈ out := by
        intro k
        induction k with
        | zero =>
          intro p acc out q h y hy
          simp only [allL, Option.some.injEq, Prod.mk.injEq] at h
          rw [← h.1]
          exact hy
        | succ k ih =>
          intro p acc out q h y hy
          rw [allL] at h
          cases ho : oneF l p with
          | none => rw [ho] at h; cases h
          | some r => rw [ho] at h; exact ih _ _ _ _ h y (List.mem_append_left _ hy)
      have hx := hr x (hmem _ _ _ _ _ h x (by simp))
      obtain ⟨hw, hs⟩ := one_seg hb ho hx
      have hl := hs.len
      obtain ⟨fs, e1, e2, e3, e4⟩ := all_seg hb k p' q _ out (by omega) (by omega) h hr
      refine ⟨x :: fs, by rw [e1, List.append_assoc]; rfl, by rw [List.length_cons, e2], fun m hm => ?_, ?_⟩
      · rcases List.mem_cons.1 hm with rfl | hm
        · exact ⟨hx, hw⟩
        · exact e3 m hm
      · rw [List.flatMap_cons]
        exact hs.then_ e4
theorem rightL_mem {l : List Fl} (h : rightL l = true) : (∀ x ∈ l, rightX x = true) ∧ l.length ≤ 64 := by
  unfold rightL at h
  rw [Bool.and_eq_true, decide_eq_true_iff] at h
  refine ⟨fun x hx => ?_, by omega⟩
  obtain ⟨j, hj, rfl⟩ := List.mem_iff_getElem.1 hx
  have := (okL_iff l l.length).1 h.1 j hj
  rw [stepL_at l j hj, Bool.and_eq_true] at this
  exact this.1
/-- All fields' bytes. -/
def putL (l : List Fl) : List Int := [(l.length : Int)] ++ l.flatMap putX
theorem putL_len (l : List Fl) : (putL l).length = 1 + (l.flatMap putX).length := by unfold putL; rw [List.length_append]; rfl
/-- What All says of what was put, and of something behind it. -/
theorem read_put {l : List Fl} (hr : rightL l = true) (hw : ∀ x ∈ l, Wf x) (z : List Int) : allL (putL l ++ z) (rd (putL l ++ z) 0).toNat 1 [] = some (l, ((putL l).length : Int)) := by
  have hm := rightL_mem hr
  have e0 : rd (putL l ++ z) 0 = (l.length : Int) := rfl
  rw [e0, Int.toNat_natCast]
  have := all_read l (putL l ++ z) 1 ((putL l).length : Int) [] (fun x hx => ⟨hm.1 x hx, hw x hx⟩) ⟨[(l.length : Int)], z, by unfold putL; simp only [List.append_assoc], rfl, by rw [putL_len]; omega⟩
  rw [this]
  rfl
theorem allF_put {l : List Fl} (hr : rightL l = true) (hw : ∀ x ∈ l, Wf x) (hl : (putL l).length ≤ 65000) : allF (putL l) = (l, 0) := by
  have := read_put hr hw []
  rw [List.append_nil] at this
  unfold allF
  rw [if_neg (by rw [putL_len] at hl ⊢; omega), this]
  unfold judge
  simp [hr]
/-- What All takes has just these bytes. -/
theorem allF_seg {b : List Int} (hb : Bts b) {m : List Fl} (h : allF b = (m, 0)) : rightL m = true ∧ (∀ x ∈ m, Wf x) ∧ putL m = b ∧ b.length ≤ 65000 := by
  unfold allF at h
  by_cases hc : b.length = 0 ∨ 65000 < b.length
  · rw [if_pos hc] at h
    cases h
  rw [if_neg hc] at h
  cases ha : allL b (rd b 0).toNat 1 [] with
  | none => rw [ha] at h; cases h
  | some r =>
    obtain ⟨out, p⟩ := r
    rw [ha] at h
    unfold judge at h
    simp only at h
    by_cases hp : p = (b.length : Int) ∧ rightL out = true
    · rw [if_pos hp, Prod.mk.injEq] at h
      obtain ⟨rfl, _⟩ := h
      obtain ⟨hm, h64⟩ := rightL_mem hp.2
      obtain ⟨fs, e1, e2, e3, e4⟩ := all_seg hb _ 1 p [] out (by decide) (by omega) ha hm
      rw [List.nil_append] at e1
      subst e1
      refine ⟨hp.2, fun x hx => (e3 x hx).2, ?_, by omega⟩
      match b, hb, hc, e2, e4, hp with
      | [], _, hc, _, _, _ => exact absurd rfl (fun e => hc (Or.inl e))
      | c :: b, hb, hc, e2, e4, hp =>
        have h0 := (hb c (List.mem_cons_self ..)).1
        have hcl : c = (out.length : Int) := by
          have : rd (c :: b) 0 = c := rfl
          rw [this] at e2
          omega
        have hs : Seg (c :: b) 1 p b := ⟨[c], [], by simp, rfl, by rw [hp.1, List.length_cons]; omega⟩
        unfold putL
        rw [e4.same hs, hcl]
        rfl
    · rw [if_neg hp] at h
      cases h
theorem allF_says (b : List Int) : (allF b).2 = 0 ∨ allF b = ([], 40) := by
  unfold allF
  split
  · exact Or.inr rfl
  · cases allL b (rd b 0).toNat 1 [] with
    | none => exact Or.inr rfl
    | some r =>
      unfold judge
      simp only
      split
      · exact Or.inl rfl
      · exact Or.inr rfl
theorem putL_inj {l m : List Fl} (hr : rightL l = true) (hw : ∀ x ∈ l, Wf x) (hr' : rightL m = true) (hw' : ∀ x ∈ m, Wf x) {z z' : List Int} (h : putL l ++ z = putL m ++ z') : l = m := by
  have r1 := read_put hr hw z
  have r2 := read_put hr' hw' z'
  rw [h, r2] at r1
  exact (congrArg Prod.fst (Option.some.inj r1)).symm
end Go.Proofs.Ytnhkbjihgepapaa.Fd
