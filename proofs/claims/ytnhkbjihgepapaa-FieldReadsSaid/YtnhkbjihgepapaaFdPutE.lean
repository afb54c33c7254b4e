/- What field.Put says, in plain Lean. -/
import Derived.Test.YtnhkbjihgepapaaFdPut
import Derived.Test.YtnhkbjihgepapaaPFx15
set_option linter.unusedVariables false
set_option linter.unusedSimpArgs false
namespace Go.Proofs.Ytnhkbjihgepapaa.Fd
open Go.RowKit Go.Proofs.YtnhkbjihgepapaaW.PrintWords Go.Proofs.YtnhkbjihgepapaaW.PrintLast Go.Proofs.YtnhkbjihgepapaaW.PrintMore Go.Proofs.Ytnhkbjihgepapaa.PF Go.Proofs.Ytnhkbjihgepapaa.Oct Go.Proofs.Ytnhkbjihgepapaa.EvK
theorem encN_len (n : Int) : (encN n).length = 8 := be_length _ _
theorem flatN_len : ∀ ns : List Int, (ns.flatMap encN).length = 8 * ns.length
  | [] => rfl
  | n :: ns => by rw [List.flatMap_cons, List.length_append, encN_len, flatN_len ns, List.length_cons]; omega
theorem flatT_le : ∀ ts : List ByteArray, (∀ t ∈ ts, t.size ≤ 65535) → (ts.flatMap encT).length ≤ 65537 * ts.length
  | [], _ => Nat.zero_le _
  | t :: ts, h => by
    have h1 := flatT_le ts (fun s hs => h s (List.mem_cons_of_mem _ hs))
    have h2 := h t (List.mem_cons_self ..)
    rw [List.flatMap_cons, List.length_append, encT_len, List.length_cons]
    omega
theorem rdS (L : List ByteArray) (j : Nat) (h : j < L.length) : rdOf ByteArray.empty L (j : Int) = L[j] := by unfold rdOf; simp [List.getD, h]
theorem rdI (L : List Int) (j : Nat) (h : j < L.length) : rd L (j : Int) = L[j] := by unfold rd; simp [List.getD, h]
theorem tail_len {x : Fl} (hx : rightX x = true) : (tailX x).length ≤ 16777700 := by
  unfold tailX
  rcases right_cases hx with ⟨e, ex⟩ | ⟨e, ex, hs⟩ | ⟨e, ex, hs⟩ | ⟨e, ex, hs, hs2⟩
  · rw [if_pos e, encN_len]; omega
  · rw [if_neg (by omega), if_pos e, encT_len]; omega
  · rw [if_neg (by omega), if_neg (by omega), if_pos e, List.length_append, be_length, flatN_len]; omega
  · have := flatT_le x.f5 hs2
    rw [if_neg (by omega), if_neg (by omega), if_neg (by omega), if_pos e, List.length_append, be_length]; omega
theorem putX_len (x : Fl) : (putX x).length = 2 + (tailX x).length := by unfold putX; rw [List.length_append]; rfl
/-! ### size -/
theorem size_l0 (ts : List ByteArray) (h : ∀ t ∈ ts, t.size ≤ 65535) (hl : ts.length ≤ 256) : ∀ d j n, ts.length - j = d → j ≤ ts.length → n + ((ts.drop j).flatMap encT).length ≤ 100000000 → Ev (fun k => field_size.l0 k (n : Nat) ts (ts.length : Int) (j : Int)) ((n + ((ts.drop j).flatMap encT).length : Nat) : Int)
  | 0, j, n, hd, hj, hn => Ev.stp (fun k => by rw [field_size.l0]) (Ev.neg (by omega) (Ev.one (by rw [List.drop_of_length_le (by omega)]; rfl)))
  | d + 1, j, n, hd, hj, hn => by
    have hlt : j < ts.length := by omega
    rw [List.drop_eq_getElem_cons hlt, List.flatMap_cons, List.length_append, encT_len] at hn ⊢
    refine Ev.stp (fun k => by rw [field_size.l0]) (Ev.pos (by omega) (Ev.pos (by omega) (Ev.pos (by omega) ?_)))
    rw [rdS ts j hlt, wr1 (by omega), show wrap64 ((n : Int) + wrap64 (2 + (ts[j].size : Int))) = ((n + (2 + ts[j].size) : Nat) : Int) by unfold wrap64; omega]
    have := size_l0 ts h hl d (j + 1) (n + (2 + ts[j].size)) (by omega) (by omega) (by omega)
    rw [Nat.add_assoc] at this
    exact this
theorem size_ev {x : Fl} (hx : rightX x = true) : Ev (fun k => field_size.f k x.f0 x.f1 x.f2 x.f3 x.f4 x.f5) ((putX x).length : Int) := by
  rw [putX_len]
  unfold field_size.f tailX
  rcases right_cases hx with ⟨e, ex⟩ | ⟨e, ex, hs⟩ | ⟨e, ex, hs⟩ | ⟨e, ex, hs, hs2⟩
  · rw [if_pos e, encN_len]
    exact Ev.pos e (Ev.one rfl)
  · rw [if_neg (by omega), if_pos e, encT_len]
    exact Ev.neg (by omega) (Ev.pos e (Ev.one (by unfold wrap64; omega)))
  · rw [if_neg (by omega), if_neg (by omega), if_pos e, List.length_append, be_length, flatN_len]
    exact Ev.neg (by omega) (Ev.neg (by omega) (Ev.pos e (Ev.one (by unfold wrap64; omega))))
  · have hf := flatT_le x.f5 hs2
    rw [if_neg (by omega), if_neg (by omega), if_neg (by omega), if_pos e, List.length_append, be_length]
    refine Ev.neg (by omega) (Ev.neg (by omega) (Ev.neg (by omega) ?_))
    have := size_l0 x.f5 hs2 hs _ 0 4 rfl (Nat.zero_le _) (by rw [List.drop_zero]; omega)
    rw [List.drop_zero] at this
    rw [show 2 + (2 + (x.f5.flatMap encT).length) = 4 + (x.f5.flatMap encT).length by omega]
    exact this
/-! ### put -/
theorem add64_f (b : List Int) (n : Int) (hb : b.length ≤ 1099511627776) : octets_Add64.f b (IntKind.u64.wrap n) = some (b ++ encN n) := by
  have h := u64_range n
  unfold u64 at h
  unfold octets_Add64.f encN u64
  rw [if_pos (okAdd_mk h.1 h.2 (by decide) (by decide) (by omega))]
theorem addText_f (b : List Int) (t : ByteArray) (hb : b.length ≤ 1099511627776) (ht : t.size ≤ 65535) : octets_AddText.f b t = some (b ++ encT t, 0) := by
  unfold octets_AddText.f addTextE okText addText encT
  rw [if_pos (decide_eq_true (by omega)), if_pos ht, List.append_assoc]
theorem add16_f (b : List Int) (n : Nat) (hb : b.length ≤ 1099511627776) (hn : n ≤ 65535) : octets_Add16.f b (IntKind.u16.wrap (n : Int)) = some (b ++ be (n : Int) 2) := by
  have e : IntKind.u16.wrap (n : Int) = n := by rw [IntKind.wrap_u16]; omega
  unfold octets_Add16.f
  rw [e, if_pos (ok16_mk (by omega) (by omega) (by omega))]
theorem put_l0 (ns : List Int) (hl : ns.length ≤ 256) : ∀ d j (b : List Int), ns.length - j = d → j ≤ ns.length → b.length + 8 * (ns.length - j) ≤ 1099511627776 → Ev (fun k => field_put.l0 k b ns (ns.length : Int) (j : Int)) (b ++ (ns.drop j).flatMap encN)
  | 0, j, b, hd, hj, hn => Ev.stp (fun k => by rw [field_put.l0]) (Ev.neg (by omega) (Ev.one (by rw [List.drop_of_length_le (by omega)]; exact (List.append_nil _).symm)))
  | d + 1, j, b, hd, hj, hn => by
    have hlt : j < ns.length := by omega
    refine Ev.stp (fun k => by rw [field_put.l0]) (Ev.pos (by omega) (Ev.pos (by omega) (Ev.pos (by omega) ?_)))
    rw [rdI ns j hlt, add64_f b _ (by omega), wr1 (by omega), List.drop_eq_getElem_cons hlt, List.flatMap_cons, ← List.append_assoc]
    exact Ev.sbnd (put_l0 ns hl d (j + 1) (b ++ encN ns[j]) (by omega) (by omega) (by rw [List.length_append, encN_len]; omega))
theorem put_l1 (ts : List ByteArray) (h : ∀ t ∈ ts, t.size ≤ 65535) (hl : ts.length ≤ 256) : ∀ d j (b : List Int), ts.length - j = d → j ≤ ts.length → b.length + 65537 * (ts.length - j) ≤ 1099511627776 → Ev (fun k => field_put.l1 k b ts (ts.length : Int) (j : Int)) (b ++ (ts.drop j).flatMap encT)
  | 0, j, b, hd, hj, hn => Ev.stp (fun k => by rw [field_put.l1]) (Ev.neg (by omega) (Ev.one (by rw [List.drop_of_length_le (by omega)]; exact (List.append_nil _).symm)))
  | d + 1, j, b, hd, hj, hn => by
    have hlt : j < ts.length := by omega
    have hz := h ts[j] (List.getElem_mem hlt)
    refine Ev.stp (fun k => by rw [field_put.l1]) (Ev.pos (by omega) (Ev.pos (by omega) (Ev.pos (by omega) ?_)))
    rw [rdS ts j hlt, addText_f b _ (by omega) hz, wr1 (by omega), List.drop_eq_getElem_cons hlt, List.flatMap_cons, ← List.append_assoc]
    exact Ev.sbnd (put_l1 ts h hl d (j + 1) (b ++ encT ts[j]) (by omega) (by omega) (by rw [List.length_append, encT_len]; omega))
theorem put_ev {x : Fl} (hx : rightX x = true) (b : List Int) (hb : b.length ≤ 549755813888) : Ev (fun k => field_put.f k b x.f0 x.f1 x.f2 x.f3 x.f4 x.f5) (b ++ putX x) := by
  unfold field_put.f putX tailX
  have hl2 : (b ++ [x.f0, x.f1]).length = b.length + 2 := by rw [List.length_append]; rfl
  refine Ev.sbnd (Ev.pos (show b.length + 2 < _ by omega) (Ev.sbnd ?_))
  rw [← List.append_assoc]
  rcases right_cases hx with ⟨e, ex⟩ | ⟨e, ex, hs⟩ | ⟨e, ex, hs⟩ | ⟨e, ex, hs, hs2⟩
  · rw [if_pos e]
    refine Ev.pos e ?_
    rw [add64_f _ _ (by omega)]
    exact Ev.sbnd (Ev.one rfl)
  · rw [if_neg (by omega), if_pos e]
    refine Ev.neg (by omega) (Ev.pos e ?_)
    rw [addText_f _ _ (by omega) hs]
    exact Ev.sbnd (Ev.one rfl)
  · rw [if_neg (by omega), if_neg (by omega), if_pos e]
    refine Ev.neg (by omega) (Ev.neg (by omega) (Ev.pos e ?_))
    rw [add16_f _ _ (by omega) (by omega), ← List.append_assoc]
    exact Ev.sbnd (put_l0 x.f4 hs _ 0 _ rfl (Nat.zero_le _) (by rw [List.length_append, be_length]; omega))
  · rw [if_neg (by omega), if_neg (by omega), if_neg (by omega), if_pos e]
    refine Ev.neg (by omega) (Ev.neg (by omega) (Ev.neg (by omega) (Ev.pos e ?_)))
    rw [add16_f _ _ (by omega) (by omega), ← List.append_assoc]
    exact Ev.sbnd (put_l1 x.f5 hs2 hs _ 0 _ rfl (Nat.zero_le _) (by rw [List.length_append, be_length]; omega))
/-! ### Put -/
theorem flatX_le : ∀ l : List Fl, (∀ x ∈ l, rightX x = true) → (l.flatMap putX).length ≤ 16777702 * l.length
  | [], _ => Nat.zero_le _
  | x :: l, h => by
    have h1 := flatX_le l (fun s hs => h s (List.mem_cons_of_mem _ hs))
    have h2 := tail_len (h x (List.mem_cons_self ..))
    rw [List.flatMap_cons, List.length_append, putX_len, List.length_cons]
    omega
def putR (l : List Fl) : List Int × Int := if rightL l = true then (if 65000 < (putL l).length then ([], 3) else (putL l, 0)) else ([], 2)
theorem Put_l1 (l : List Fl) (h : ∀ x ∈ l, rightX x = true) (hl : l.length ≤ 64) : ∀ d j (b : List Int), l.length - j = d → j ≤ l.length → b.length + 16777702 * (l.length - j) ≤ 549755813888 → Ev (fun k => field_Put.l1 k b l (l.length : Int) (j : Int)) (b ++ (l.drop j).flatMap putX, 0)
  | 0, j, b, hd, hj, hn => Ev.stp (fun k => by rw [field_Put.l1]) (Ev.neg (by omega) (Ev.one (by rw [List.drop_of_length_le (by omega)]; exact (congrArg (fun z => (z, (0 : Int))) (List.append_nil _)).symm)))
  | d + 1, j, b, hd, hj, hn => by
    have hlt : j < l.length := by omega
    have hx := h l[j] (List.getElem_mem hlt)
    have ht := tail_len hx
    refine Ev.stp (fun k => by rw [field_Put.l1]) (Ev.pos (by omega) (Ev.pos (by omega) (Ev.pos (by omega) ?_)))
    rw [rdF l j hlt, wr1 (by omega), List.drop_eq_getElem_cons hlt, List.flatMap_cons, ← List.append_assoc]
    exact Ev.bnd (put_ev hx b (by omega)) (Put_l1 l h hl d (j + 1) (b ++ putX l[j]) (by omega) (by omega) (by rw [List.length_append, putX_len]; omega))
theorem Put_l0 (l : List Fl) (h : ∀ x ∈ l, rightX x = true) (hl : l.length ≤ 64) (hr : rightL l = true) : ∀ d j n, l.length - j = d → j ≤ l.length → n + ((l.drop j).flatMap putX).length = (putL l).length → Ev (fun k => field_Put.l0 k l (n : Nat) l (l.length : Int) (j : Int)) (putR l)
  | 0, j, n, hd, hj, hn => by
    rw [List.drop_of_length_le (by omega), List.flatMap_nil, List.length_nil] at hn
    refine Ev.stp (fun k => by rw [field_Put.l0]) (Ev.neg (by omega) ?_)
    unfold putR
    rw [if_pos hr]
    by_cases hc : 65000 < (putL l).length
    · rw [if_pos hc]
      exact Ev.pos (by omega) (Ev.one rfl)
    · rw [if_neg hc]
      refine Ev.neg (by omega) ?_
      rw [show ((l.length : Int)) % 256 = l.length by omega]
      have := Put_l1 l h hl _ 0 [(l.length : Int)] rfl (Nat.zero_le _) (by simp only [List.length_cons, List.length_nil]; omega)
      exact this
  | d + 1, j, n, hd, hj, hn => by
    have hlt : j < l.length := by omega
    have hx := h l[j] (List.getElem_mem hlt)
    have hb := flatX_le l h
    have hpl := putL_len l
    rw [List.drop_eq_getElem_cons hlt, List.flatMap_cons, List.length_append] at hn
    refine Ev.stp (fun k => by rw [field_Put.l0]) (Ev.pos (by omega) (Ev.pos (by omega) (Ev.pos (by omega) ?_)))
    rw [rdF l j hlt, wr1 (by omega)]
    refine Ev.bnd (size_ev hx) ?_
    rw [show wrap64 ((n : Int) + ((putX l[j]).length : Int)) = ((n + (putX l[j]).length : Nat) : Int) by unfold wrap64; omega]
    exact Put_l0 l h hl hr d (j + 1) (n + (putX l[j]).length) (by omega) (by omega) (by omega)
theorem Put_ev (l : List Fl) (hl : l.length ≤ 9000000000000000) : Ev (fun k => field_Put.f k l) (putR l) := by
  unfold field_Put.f
  refine Ev.bnd (right_ev l hl) ?_
  by_cases hr : rightL l = true
  · obtain ⟨hm, h64⟩ := rightL_mem hr
    rw [hr]
    refine Ev.pos rfl ?_
    exact Put_l0 l hm h64 hr _ 0 1 rfl (Nat.zero_le _) (by rw [List.drop_zero, putL_len])
  · rw [Bool.not_eq_true] at hr
    rw [hr]
    refine Ev.neg (by decide) (Ev.one ?_)
    unfold putR
    rw [if_neg (by rw [hr]; decide)]
/-! ### what is the same -/
theorem sameN_l0 (a b : List Int) (hl : a.length = b.length) (h9 : a.length < 9000000000000000000) : ∀ d j, a.length - j = d → j ≤ a.length → Ev (fun k => musterlow_SameNumbers.l0 k a b (j : Int)) (decide (a.drop j = b.drop j))
  | 0, j, hd, hj => Ev.stp (fun k => by rw [musterlow_SameNumbers.l0]) (Ev.neg (by omega) (Ev.one (by rw [List.drop_of_length_le (by omega), List.drop_of_length_le (by omega)]; rfl)))
  | d + 1, j, hd, hj => by
    have hlt : j < a.length := by omega
    refine Ev.stp (fun k => by rw [musterlow_SameNumbers.l0]) (Ev.pos (by omega) (Ev.pos (by omega) (Ev.pos (by omega) ?_)))
    rw [rdI a j hlt, rdI b j (by omega), List.drop_eq_getElem_cons hlt, List.drop_eq_getElem_cons (show j < b.length by omega)]
    by_cases h : a[j] = b[j]'(by omega)
    · refine Ev.pos h ?_
      rw [wr1 (by omega), h]
      rw [show ∀ z, decide (z :: a.drop (j + 1) = z :: b.drop (j + 1)) = decide (a.drop (j + 1) = b.drop (j + 1)) from fun z => decide_eq_decide.2 ⟨fun e => (List.cons.inj e).2, fun e => by rw [e]⟩]
      exact sameN_l0 a b hl h9 d (j + 1) (by omega) (by omega)
    · exact Ev.neg h (Ev.one (by rw [decide_eq_false (fun e => h (List.cons.inj e).1)]))
theorem sameN_ev (a b : List Int) (h9 : a.length < 9000000000000000000) : Ev (fun k => musterlow_SameNumbers.f k a b) (decide (a = b)) := by
  unfold musterlow_SameNumbers.f
  by_cases h : a.length = b.length
  · have := sameN_l0 a b h h9 _ 0 rfl (Nat.zero_le _)
    rw [List.drop_zero, List.drop_zero] at this
    exact Ev.pos (by omega) this
  · exact Ev.neg (by omega) (Ev.one (by rw [decide_eq_false (fun e => h (by rw [e]))]))
theorem sameT_l0 (a b : List ByteArray) (hl : a.length = b.length) (h9 : a.length < 9000000000000000000) : ∀ d j, a.length - j = d → j ≤ a.length → Ev (fun k => musterlow_SameTexts.l0 k a b (j : Int)) (decide (a.drop j = b.drop j))
  | 0, j, hd, hj => Ev.stp (fun k => by rw [musterlow_SameTexts.l0]) (Ev.neg (by omega) (Ev.one (by rw [List.drop_of_length_le (by omega), List.drop_of_length_le (by omega)]; rfl)))
  | d + 1, j, hd, hj => by
    have hlt : j < a.length := by omega
    refine Ev.stp (fun k => by rw [musterlow_SameTexts.l0]) (Ev.pos (by omega) (Ev.pos (by omega) (Ev.pos (by omega) ?_)))
    rw [rdS a j hlt, rdS b j (by omega), List.drop_eq_getElem_cons hlt, List.drop_eq_getElem_cons (show j < b.length by omega)]
    by_cases h : a[j].toList = (b[j]'(by omega)).toList
    · refine Ev.pos h ?_
      rw [wr1 (by omega), toL_inj h]
      rw [show ∀ z, decide (z :: a.drop (j + 1) = z :: b.drop (j + 1)) = decide (a.drop (j + 1) = b.drop (j + 1)) from fun z => decide_eq_decide.2 ⟨fun e => (List.cons.inj e).2, fun e => by rw [e]⟩]
      exact sameT_l0 a b hl h9 d (j + 1) (by omega) (by omega)
    · exact Ev.neg h (Ev.one (by rw [decide_eq_false (fun e => h (by rw [(List.cons.inj e).1]))]))
theorem sameT_ev (a b : List ByteArray) (h9 : a.length < 9000000000000000000) : Ev (fun k => musterlow_SameTexts.f k a b) (decide (a = b)) := by
  unfold musterlow_SameTexts.f
  by_cases h : a.length = b.length
  · have := sameT_l0 a b h h9 _ 0 rfl (Nat.zero_le _)
    rw [List.drop_zero, List.drop_zero] at this
    exact Ev.pos (by omega) this
  · exact Ev.neg (by omega) (Ev.one (by rw [decide_eq_false (fun e => h (by rw [e]))]))
/-- No row of it is longer than memory. -/
def Mem9 (x : Fl) : Prop := x.f4.length < 9000000000000000000 ∧ x.f5.length < 9000000000000000000
theorem fl_ext (a b : Fl) : (a.f0 = b.f0 ∧ a.f1 = b.f1 ∧ a.f2 = b.f2 ∧ a.f3 = b.f3 ∧ a.f4 = b.f4 ∧ a.f5 = b.f5) ↔ a = b := by
  cases a
  cases b
  simp
instance : DecidableEq Fl := fun a b => decidable_of_iff _ (fl_ext a b)
theorem sameF_ev (x y : Fl) (h9 : Mem9 x) : Ev (fun k => musterlow_SameField.f k x.f0 x.f1 x.f2 x.f3 x.f4 x.f5 y.f0 y.f1 y.f2 y.f3 y.f4 y.f5) (decide (x = y)) := by
  unfold musterlow_SameField.f
  obtain ⟨a0, a1, a2, a3, a4, a5⟩ := x
  obtain ⟨b0, b1, b2, b3, b4, b5⟩ := y
  simp only
  by_cases h0 : a0 = b0
  case neg => exact Ev.neg h0 (Ev.one (by rw [decide_eq_false (fun e => h0 (by cases e; rfl))]))
  by_cases h1 : a1 = b1
  case neg => exact Ev.pos h0 (Ev.neg h1 (Ev.one (by rw [decide_eq_false (fun e => h1 (by cases e; rfl))])))
  by_cases h2 : a2 = b2
  case neg => exact Ev.pos h0 (Ev.pos h1 (Ev.neg h2 (Ev.one (by rw [decide_eq_false (fun e => h2 (by cases e; rfl))]))))
  by_cases h3 : a3.toList = b3.toList
  case neg => exact Ev.pos h0 (Ev.pos h1 (Ev.pos h2 (Ev.neg h3 (Ev.one (by rw [decide_eq_false (fun e => h3 (by cases e; rfl))])))))
  refine Ev.pos h0 (Ev.pos h1 (Ev.pos h2 (Ev.pos h3 (Ev.bnd (sameN_ev a4 b4 h9.1) ?_))))
  by_cases h4 : a4 = b4
  case neg => rw [decide_eq_false h4]; exact Ev.neg (by decide) (Ev.one (by rw [decide_eq_false (fun e => h4 (by cases e; rfl))]))
  rw [decide_eq_true h4]
  refine Ev.pos rfl (Ev.bnd (sameT_ev a5 b5 h9.2) (Ev.one ?_))
  by_cases h5 : a5 = b5
  · have := toL_inj h3
    subst h0 h1 h2 this h4 h5
    simp
  · rw [decide_eq_false h5, decide_eq_false (fun e => h5 (by cases e; rfl))]
theorem sameFs_l0 (a b : List Fl) (hl : a.length = b.length) (h9 : a.length < 9000000000000000000) (hm : ∀ x ∈ a, Mem9 x) : ∀ d j, a.length - j = d → j ≤ a.length → Ev (fun k => musterlow_SameFields.l0 k a b (j : Int)) (decide (a.drop j = b.drop j))
  | 0, j, hd, hj => Ev.stp (fun k => by rw [musterlow_SameFields.l0]) (Ev.neg (by omega) (Ev.one (by rw [List.drop_of_length_le (by omega), List.drop_of_length_le (by omega)]; simp)))
  | d + 1, j, hd, hj => by
    have hlt : j < a.length := by omega
    refine Ev.stp (fun k => by rw [musterlow_SameFields.l0]) (Ev.pos (by omega) (Ev.pos (by omega) (Ev.pos (by omega) ?_)))
    rw [rdF a j hlt, rdF b j (by omega), List.drop_eq_getElem_cons hlt, List.drop_eq_getElem_cons (show j < b.length by omega)]
    refine Ev.bnd (sameF_ev a[j] (b[j]'(by omega)) (hm _ (List.getElem_mem hlt))) ?_
    by_cases h : a[j] = b[j]'(by omega)
    · rw [decide_eq_true h]
      refine Ev.pos rfl ?_
      rw [wr1 (by omega), h]
      rw [show ∀ z, decide (z :: a.drop (j + 1) = z :: b.drop (j + 1)) = decide (a.drop (j + 1) = b.drop (j + 1)) from fun z => decide_eq_decide.2 ⟨fun e => (List.cons.inj e).2, fun e => by rw [e]⟩]
      exact sameFs_l0 a b hl h9 hm d (j + 1) (by omega) (by omega)
    · rw [decide_eq_false h]
      exact Ev.neg (by decide) (Ev.one (by rw [decide_eq_false (fun e => h (List.cons.inj e).1)]))
theorem sameFs_ev (a b : List Fl) (h9 : a.length < 9000000000000000000) (hm : ∀ x ∈ a, Mem9 x) : Ev (fun k => musterlow_SameFields.f k a b) (decide (a = b)) := by
  unfold musterlow_SameFields.f
  by_cases h : a.length = b.length
  · have := sameFs_l0 a b h h9 hm _ 0 rfl (Nat.zero_le _)
    rw [List.drop_zero, List.drop_zero] at this
    exact Ev.pos (by omega) this
  · exact Ev.neg (by omega) (Ev.one (by rw [decide_eq_false (fun e => h (by rw [e]))]))
theorem awake_ev : Ev (fun k => musterlaw04_awake.f k) true := Ev.of (fun k => musterlaw04_awake.mono k) (k := 20) (by decide +kernel)
end Go.Proofs.Ytnhkbjihgepapaa.Fd
