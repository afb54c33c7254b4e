/- Texts of this claim, laid together: FdPutE, FdLaw, FdBack, Any, FdNsA, FdNsB, FdNsP, FdNsC, FdNs, PFFieldNumbersx0, PFFieldNumbersx1, PureFieldNumbers. -/
import Derived.ArgAppend
import Derived.Test.YtnhkbjihgepapaaProg
import Derived.Below
import Derived.Deep.Draws
import Derived.Deep.AppendLies
import Derived.Maps.AppendAt
import Derived.OwnWalk
import Derived.Laws.BytesArg
import Derived.Laws.MakeOwn
import Derived.Laws.OwnMore
import Derived.Deep.OwnRows
import Derived.Tactics
import Derived.Lib.ConvBytes
import Derived.Laws.Slices
import Derived.WalkKit
import Derived.KernelRfl
import Derived.RowKit3
import Derived.Deep.LoopGhost
import Derived.Deep.QuietTactic
import Derived.BigQuiet
import Derived.WideLaws
import Derived.Deep.DeepCutAuto
import Derived.Deep.CutBlock
import Derived.Deep.RegionHeld3
import Derived.Laws.Rows
import Derived.Lib.AppendStr
import Derived.Laws.IdiomCopy
import Derived.OrdersHeld
import Derived.Laws.BitsLemmas
import Derived.RowKit
import Derived.Test.YtnhkbjihgepapaaPkN0
import Derived.Test.YtnhkbjihgepapaaPkN1
import Derived.Test.YtnhkbjihgepapaaPkN2
import Derived.Test.YtnhkbjihgepapaaPkN3
import Derived.Test.YtnhkbjihgepapaaPkN4
import Derived.Test.YtnhkbjihgepapaaPkN5
import Derived.Test.YtnhkbjihgepapaaPkN6
/- What field.Put says, in plain Lean. -/
set_option linter.unusedVariables false
set_option linter.unusedSimpArgs false
namespace Go.Proofs.Ytnhkbjihgepapaa.Fd
open Go.RowKit Go.Proofs.YtnhkbjihgepapaaW.PrintWords Go.Proofs.YtnhkbjihgepapaaW.PrintLast Go.Proofs.YtnhkbjihgepapaaW.PrintMore Go.Proofs.Ytnhkbjihgepapaa.PF Go.Proofs.Ytnhkbjihgepapaa.Oct Go.Proofs.Ytnhkbjihgepapaa.EvK
theorem encN_len (n : Int) : (encN n).length = 8 := be_length _ _
theorem flatN_len : ∀ ns : List Int, (ns.flatMap encN).length = 8 * ns.length
  | [] => rfl
  | n :: ns => by rw [List.flatMap_cons, List.length_append, encN_len, flatN_len ns, List.length_cons]; omega
theorem flatT_le : ∀ ts : List ByteArray, (∀ t ∈ ts, t.size ≤ 65535) → (ts.flatMap encT).length ≤ 65537 * ts.length
  | [], _ => Nat.zero_le _
  | t :: ts, h => by
    have h1 := flatT_le ts (fun s hs => h s (List.mem_cons_of_mem _ hs))
    have h2 := h t (List.mem_cons_self ..)
    rw [List.flatMap_cons, List.length_append, encT_len, List.length_cons]
    omega
theorem rdS (L : List ByteArray) (j : Nat) (h : j < L.length) : rdOf ByteArray.empty L (j : Int) = L[j] := by unfold rdOf; simp [List.getD, h]
theorem rdI (L : List Int) (j : Nat) (h : j < L.length) : rd L (j : Int) = L[j] := by unfold rd; simp [List.getD, h]
theorem tail_len {x : Fl} (hx : rightX x = true) : (tailX x).length ≤ 16777700 := by
  unfold tailX
  rcases right_cases hx with ⟨e, ex⟩ | ⟨e, ex, hs⟩ | ⟨e, ex, hs⟩ | ⟨e, ex, hs, hs2⟩
  · rw [if_pos e, encN_len]; omega
  · rw [if_neg (by omega), if_pos e, encT_len]; omega
  · rw [if_neg (by omega), if_neg (by omega), if_pos e, List.length_append, be_length, flatN_len]; omega
  · have := flatT_le x.f5 hs2
    rw [if_neg (by omega), if_neg (by omega), if_neg (by omega), if_pos e, List.length_append, be_length]; omega
theorem putX_len (x : Fl) : (putX x).length = 2 + (tailX x).length := by unfold putX; rw [List.length_append]; rfl
/-! ### size -/
theorem size_l0 (ts : List ByteArray) (h : ∀ t ∈ ts, t.size ≤ 65535) (hl : ts.length ≤ 256) : ∀ d j n, ts.length - j = d → j ≤ ts.length → n + ((ts.drop j).flatMap encT).length ≤ 100000000 → Ev (fun k => field_size.l0 k (n : Nat) ts (ts.length : Int) (j : Int)) ((n + ((ts.drop j).flatMap encT).length : Nat) : Int)
  | 0, j, n, hd, hj, hn => Ev.stp (fun k => by rw [field_size.l0]) (Ev.neg (by omega) (Ev.one (by rw [List.drop_of_length_le (by omega)]; rfl)))
  | d + 1, j, n, hd, hj, hn => by
    have hlt : j < ts.length := by omega
    rw [List.drop_eq_getElem_cons hlt, List.flatMap_cons, List.length_append, encT_len] at hn ⊢
    refine Ev.stp (fun k => by rw [field_size.l0]) (Ev.pos (by omega) (Ev.pos (by omega) (Ev.pos (by omega) ?_)))
    rw [rdS ts j hlt, wr1 (by omega), show wrap64 ((n : Int) + wrap64 (2 + (ts[j].size : Int))) = ((n + (2 + ts[j].size) : Nat) : Int) by unfold wrap64; omega]
    have := size_l0 ts h hl d (j + 1) (n + (2 + ts[j].size)) (by omega) (by omega) (by omega)
    rw [Nat.add_assoc] at this
    exact this
theorem size_ev {x : Fl} (hx : rightX x = true) : Ev (fun k => field_size.f k x.f0 x.f1 x.f2 x.f3 x.f4 x.f5) ((putX x).length : Int) := by
  rw [putX_len]
  unfold field_size.f tailX
  rcases right_cases hx with ⟨e, ex⟩ | ⟨e, ex, hs⟩ | ⟨e, ex, hs⟩ | ⟨e, ex, hs, hs2⟩
  · rw [if_pos e, encN_len]
    exact Ev.pos e (Ev.one rfl)
  · rw [if_neg (by omega), if_pos e, encT_len]
    exact Ev.neg (by omega) (Ev.pos e (Ev.one (by unfold wrap64; omega)))
  · rw [if_neg (by omega), if_neg (by omega), if_pos e, List.length_append, be_length, flatN_len]
    exact Ev.neg (by omega) (Ev.neg (by omega) (Ev.pos e (Ev.one (by unfold wrap64; omega))))
  · have hf := flatT_le x.f5 hs2
    rw [if_neg (by omega), if_neg (by omega), if_neg (by omega), if_pos e, List.length_append, be_length]
    refine Ev.neg (by omega) (Ev.neg (by omega) (Ev.neg (by omega) ?_))
    have := size_l0 x.f5 hs2 hs _ 0 4 rfl (Nat.zero_le _) (by rw [List.drop_zero]; omega)
    rw [List.drop_zero] at this
    rw [show 2 + (2 + (x.f5.flatMap encT).length) = 4 + (x.f5.flatMap encT).length by omega]
    exact this
/-! ### put -/
theorem add64_f (b : List Int) (n : Int) (hb : b.length ≤ 1099511627776) : octets_Add64.f b (IntKind.u64.wrap n) = some (b ++ encN n) := by
  have h := u64_range n
  unfold u64 at h
  unfold octets_Add64.f encN u64
  rw [if_pos (okAdd_mk h.1 h.2 (by decide) (by decide) (by omega))]
theorem addText_f (b : List Int) (t : ByteArray) (hb : b.length ≤ 1099511627776) (ht : t.size ≤ 65535) : octets_AddText.f b t = some (b ++ encT t, 0) := by
  unfold octets_AddText.f addTextE okText addText encT
  rw [if_pos (decide_eq_true (by omega)), if_pos ht, List.append_assoc]
theorem add16_f (b : List Int) (n : Nat) (hb : b.length ≤ 1099511627776) (hn : n ≤ 65535) : octets_Add16.f b (IntKind.u16.wrap (n : Int)) = some (b ++ be (n : Int) 2) := by
  have e : IntKind.u16.wrap (n : Int) = n := by rw [IntKind.wrap_u16]; omega
  unfold octets_Add16.f
  rw [e, if_pos (ok16_mk (by omega) (by omega) (by omega))]
theorem put_l0 (ns : List Int) (hl : ns.length ≤ 256) : ∀ d j (b : List Int), ns.length - j = d → j ≤ ns.length → b.length + 8 * (ns.length - j) ≤ 1099511627776 → Ev (fun k => field_put.l0 k b ns (ns.length : Int) (j : Int)) (b ++ (ns.drop j).flatMap encN)
  | 0, j, b, hd, hj, hn => Ev.stp (fun k => by rw [field_put.l0]) (Ev.neg (by omega) (Ev.one (by rw [List.drop_of_length_le (by omega)]; exact (List.append_nil _).symm)))
  | d + 1, j, b, hd, hj, hn => by
    have hlt : j < ns.length := by omega
    refine Ev.stp (fun k => by rw [field_put.l0]) (Ev.pos (by omega) (Ev.pos (by omega) (Ev.pos (by omega) ?_)))
    rw [rdI ns j hlt, add64_f b _ (by omega), wr1 (by omega), List.drop_eq_getElem_cons hlt, List.flatMap_cons, ← List.append_assoc]
    exact Ev.sbnd (put_l0 ns hl d (j + 1) (b ++ encN ns[j]) (by omega) (by omega) (by rw [List.length_append, encN_len]; omega))
theorem put_l1 (ts : List ByteArray) (h : ∀ t ∈ ts, t.size ≤ 65535) (hl : ts.length ≤ 256) : ∀ d j (b : List Int), ts.length - j = d → j ≤ ts.length → b.length + 65537 * (ts.length - j) ≤ 1099511627776 → Ev (fun k => field_put.l1 k b ts (ts.length : Int) (j : Int)) (b ++ (ts.drop j).flatMap encT)
  | 0, j, b, hd, hj, hn => Ev.stp (fun k => by rw [field_put.l1]) (Ev.neg (by omega) (Ev.one (by rw [List.drop_of_length_le (by omega)]; exact (List.append_nil _).symm)))
  | d + 1, j, b, hd, hj, hn => by
    have hlt : j < ts.length := by omega
    have hz := h ts[j] (List.getElem_mem hlt)
    refine Ev.stp (fun k => by rw [field_put.l1]) (Ev.pos (by omega) (Ev.pos (by omega) (Ev.pos (by omega) ?_)))
    rw [rdS ts j hlt, addText_f b _ (by omega) hz, wr1 (by omega), List.drop_eq_getElem_cons hlt, List.flatMap_cons, ← List.append_assoc]
    exact Ev.sbnd (put_l1 ts h hl d (j + 1) (b ++ encT ts[j]) (by omega) (by omega) (by rw [List.length_append, encT_len]; omega))
theorem put_ev {x : Fl} (hx : rightX x = true) (b : List Int) (hb : b.length ≤ 549755813888) : Ev (fun k => field_put.f k b x.f0 x.f1 x.f2 x.f3 x.f4 x.f5) (b ++ putX x) := by
  unfold field_put.f putX tailX
  have hl2 : (b ++ [x.f0, x.f1]).length = b.length + 2 := by rw [List.length_append]; rfl
  refine Ev.sbnd (Ev.pos (show b.length + 2 < _ by omega) (Ev.sbnd ?_))
  rw [← List.append_assoc]
  rcases right_cases hx with ⟨e, ex⟩ | ⟨e, ex, hs⟩ | ⟨e, ex, hs⟩ | ⟨e, ex, hs, hs2⟩
  · rw [if_pos e]
    refine Ev.pos e ?_
    rw [add64_f _ _ (by omega)]
    exact Ev.sbnd (Ev.one rfl)
  · rw [if_neg (by omega), if_pos e]
    refine Ev.neg (by omega) (Ev.pos e ?_)
    rw [addText_f _ _ (by omega) hs]
    exact Ev.sbnd (Ev.one rfl)
  · rw [if_neg (by omega), if_neg (by omega), if_pos e]
    refine Ev.neg (by omega) (Ev.neg (by omega) (Ev.pos e ?_))
    rw [add16_f _ _ (by omega) (by omega), ← List.append_assoc]
    exact Ev.sbnd (put_l0 x.f4 hs _ 0 _ rfl (Nat.zero_le _) (by rw [List.length_append, be_length]; omega))
  · rw [if_neg (by omega), if_neg (by omega), if_neg (by omega), if_pos e]
    refine Ev.neg (by omega) (Ev.neg (by omega) (Ev.neg (by omega) (Ev.pos e ?_)))
    rw [add16_f _ _ (by omega) (by omega), ← List.append_assoc]
    exact Ev.sbnd (put_l1 x.f5 hs2 hs _ 0 _ rfl (Nat.zero_le _) (by rw [List.length_append, be_length]; omega))
/-! ### Put -/
theorem flatX_le : ∀ l : List Fl, (∀ x ∈ l, rightX x = true) → (l.flatMap putX).length ≤ 16777702 * l.length
  | [], _ => Nat.zero_le _
  | x :: l, h => by
    have h1 := flatX_le l (fun s hs => h s (List.mem_cons_of_mem _ hs))
    have h2 := tail_len (h x (List.mem_cons_self ..))
    rw [List.flatMap_cons, List.length_append, putX_len, List.length_cons]
    omega
def putR (l : List Fl) : List Int × Int := if rightL l = true then (if 65000 < (putL l).length then ([], 3) else (putL l, 0)) else ([], 2)
theorem Put_l1 (l : List Fl) (h : ∀ x ∈ l, rightX x = true) (hl : l.length ≤ 64) : ∀ d j (b : List Int), l.length - j = d → j ≤ l.length → b.length + 16777702 * (l.length - j) ≤ 549755813888 → Ev (fun k => field_Put.l1 k b l (l.length : Int) (j : Int)) (b ++ (l.drop j).flatMap putX, 0)
  | 0, j, b, hd, hj, hn => Ev.stp (fun k => by rw [field_Put.l1]) (Ev.neg (by omega) (Ev.one (by rw [List.drop_of_length_le (by omega)]; exact (congrArg (fun z => (z, (0 : Int))) (List.append_nil _)).symm)))
  | d + 1, j, b, hd, hj, hn => by
    have hlt : j < l.length := by omega
    have hx := h l[j] (List.getElem_mem hlt)
    have ht := tail_len hx
    refine Ev.stp (fun k => by rw [field_Put.l1]) (Ev.pos (by omega) (Ev.pos (by omega) (Ev.pos (by omega) ?_)))
    rw [rdF l j hlt, wr1 (by omega), List.drop_eq_getElem_cons hlt, List.flatMap_cons, ← List.append_assoc]
    exact Ev.bnd (put_ev hx b (by omega)) (Put_l1 l h hl d (j + 1) (b ++ putX l[j]) (by omega) (by omega) (by rw [List.length_append, putX_len]; omega))
theorem Put_l0 (l : List Fl) (h : ∀ x ∈ l, rightX x = true) (hl : l.length ≤ 64) (hr : rightL l = true) : ∀ d j n, l.length - j = d → j ≤ l.length → n + ((l.drop j).flatMap putX).length = (putL l).length → Ev (fun k => field_Put.l0 k l (n : Nat) l (l.length : Int) (j : Int)) (putR l)
  | 0, j, n, hd, hj, hn => by
    rw [List.drop_of_length_le (by omega), List.flatMap_nil, List.length_nil] at hn
    refine Ev.stp (fun k => by rw [field_Put.l0]) (Ev.neg (by omega) ?_)
    unfold putR
    rw [if_pos hr]
    by_cases hc : 65000 < (putL l).length
    · rw [if_pos hc]
      exact Ev.pos (by omega) (Ev.one rfl)
    · rw [if_neg hc]
      refine Ev.neg (by omega) ?_
      rw [show ((l.length : Int)) % 256 = l.length by omega]
      have := Put_l1 l h hl _ 0 [(l.length : Int)] rfl (Nat.zero_le _) (by simp only [List.length_cons, List.length_nil]; omega)
      exact this
  | d + 1, j, n, hd, hj, hn => by
    have hlt : j < l.length := by omega
    have hx := h l[j] (List.getElem_mem hlt)
    have hb := flatX_le l h
    have hpl := putL_len l
    rw [List.drop_eq_getElem_cons hlt, List.flatMap_cons, List.length_append] at hn
    refine Ev.stp (fun k => by rw [field_Put.l0]) (Ev.pos (by omega) (Ev.pos (by omega) (Ev.pos (by omega) ?_)))
    rw [rdF l j hlt, wr1 (by omega)]
    refine Ev.bnd (size_ev hx) ?_
    rw [show wrap64 ((n : Int) + ((putX l[j]).length : Int)) = ((n + (putX l[j]).length : Nat) : Int) by unfold wrap64; omega]
    exact Put_l0 l h hl hr d (j + 1) (n + (putX l[j]).length) (by omega) (by omega) (by omega)
theorem Put_ev (l : List Fl) (hl : l.length ≤ 9000000000000000) : Ev (fun k => field_Put.f k l) (putR l) := by
  unfold field_Put.f
  refine Ev.bnd (right_ev l hl) ?_
  by_cases hr : rightL l = true
  · obtain ⟨hm, h64⟩ := rightL_mem hr
    rw [hr]
    refine Ev.pos rfl ?_
    exact Put_l0 l hm h64 hr _ 0 1 rfl (Nat.zero_le _) (by rw [List.drop_zero, putL_len])
  · rw [Bool.not_eq_true] at hr
    rw [hr]
    refine Ev.neg (by decide) (Ev.one ?_)
    unfold putR
    rw [if_neg (by rw [hr]; decide)]
/-! ### what is the same -/
theorem fl_ext (a b : Fl) : (a.f0 = b.f0 ∧ a.f1 = b.f1 ∧ a.f2 = b.f2 ∧ a.f3 = b.f3 ∧ a.f4 = b.f4 ∧ a.f5 = b.f5) ↔ a = b := by
  cases a
  cases b
  simp
instance : DecidableEq Fl := fun a b => decidable_of_iff _ (fl_ext a b)
theorem awake_ev : Ev (fun k => musterlaw04_awake.f k) true := Ev.of (fun k => musterlaw04_awake.mono k) (k := 20) (by decide +kernel)
end Go.Proofs.Ytnhkbjihgepapaa.Fd
/- The laws of Field that do not ask the document: FieldApart, FieldBack. -/
set_option linter.unusedVariables false
set_option linter.unusedSimpArgs false
namespace Go.Proofs.Ytnhkbjihgepapaa.Fd
open Go.RowKit Go.Proofs.YtnhkbjihgepapaaW.PrintWords Go.Proofs.YtnhkbjihgepapaaW.PrintLast Go.Proofs.YtnhkbjihgepapaaW.PrintMore Go.Proofs.Ytnhkbjihgepapaa.PF Go.Proofs.Ytnhkbjihgepapaa.Oct Go.Proofs.Ytnhkbjihgepapaa.EvK
attribute [local go_sem] max2_int min2_int max_two min_two max_three min_three max_four min_four
theorem putX_bytes {x : Fl} (hx : rightX x = true) (hw : Wf x) : Bts (putX x) := by
  have hk := kind_range hx
  have hN : ∀ ns : List Int, Bts (ns.flatMap encN) := fun ns z hz => by
    obtain ⟨n, _, h⟩ := List.mem_flatMap.1 hz
    exact be_bytes _ _ z h
  have hT : ∀ ts : List ByteArray, Bts (ts.flatMap encT) := fun ts z hz => by
    obtain ⟨n, _, h⟩ := List.mem_flatMap.1 hz
    exact bytes_append (be_bytes _ _) (bytesOf_bytes _) z h
  unfold putX
  refine bytes_append (fun z hz => ?_) ?_
  · rcases List.mem_cons.1 hz with rfl | hz
    · exact hw.1
    · rw [List.mem_singleton.1 hz]
      omega
  · unfold tailX
    split
    · exact be_bytes _ _
    · split
      · exact bytes_append (be_bytes _ _) (bytesOf_bytes _)
      · split
        · exact bytes_append (be_bytes _ _) (hN _)
        · split
          · exact bytes_append (be_bytes _ _) (hT _)
          · exact fun z hz => (List.not_mem_nil hz).elim
theorem putL_bytes {l : List Fl} (hr : rightL l = true) (hw : ∀ x ∈ l, Wf x) : Bts (putL l) := by
  have hm := rightL_mem hr
  unfold putL
  refine bytes_append (fun z hz => ?_) (fun z hz => ?_)
  · rw [List.mem_singleton.1 hz]
    omega
  · obtain ⟨x, hx, h⟩ := List.mem_flatMap.1 hz
    exact putX_bytes (hm.1 x hx) (hw x hx) z h
theorem Put_calls (l : List Fl) (A : Option Addr) (c n : Nat) (hn : n = l.length) (w : World) (hr : Kd.C k30 w A l.length l) (hc : l.length ≤ c) (hl : l.length ≤ 9000000000000000) :
    Calls Try.prog 8 #[.slice A n c] w fun e w' => ∃ A' c', e = .returned (.tuple #[.slice A' (putR l).1.length c', .int .i64 (putR l).2]) ∧ (putR l).1.length ≤ c' ∧ Kd.C (Kd.int .u8) w' A' (putR l).1.length (putR l).1 ∧ Below w.heap.size w w' := by
  subst hn
  obtain ⟨k, hk⟩ := Ev.the (Put_ev l hl)
  refine (field_Put.calls k A c l (putR l).1 (putR l).2 w hr hc hk).mono ?_
  rintro e w' ⟨v, rfl, ho, hb⟩
  obtain ⟨A', c', rfl, h1, h2⟩ := Kd.R_reads ho
  exact ⟨A', c', rfl, h1, h2, hb⟩
theorem All_calls (b : List Int) (A : Option Addr) (c n : Nat) (hn : n = b.length) (w : World) (hr : Kd.C (Kd.int .u8) w A b.length b) (hc : b.length ≤ c) (hb : Bts b) (hl : b.length ≤ 140737488355328) :
    Calls Try.prog 11 #[.slice A n c] w fun e w' => ∃ A' c', e = .returned (.tuple #[.slice A' (allF b).1.length c', .int .i64 (allF b).2]) ∧ (allF b).1.length ≤ c' ∧ Kd.C k30 w' A' (allF b).1.length (allF b).1 ∧ Below w.heap.size w w' := by
  subst hn
  refine (all_calls A c b w hr hc (okBytes_iff.2 ⟨hl, hb⟩)).mono ?_
  rintro e w' ⟨v, rfl, ho, hb⟩
  obtain ⟨A', c', rfl, h1, h2⟩ := Kd.S_reads ho
  exact ⟨A', c', rfl, h1, h2, hb⟩
theorem Bytes_calls (A : Option Addr) (c n : Nat) (l : List Int) (hn : n = l.length) (A1 : Option Addr) (c1 n1 : Nat) (m : List Int) (hn1 : n1 = m.length) (w : World) (hr : Kd.C (Kd.int .u8) w A l.length l) (hr1 : Kd.C (Kd.int .u8) w A1 m.length m) (hl : Bts l) (hm : Bts m) :
    Calls Try.prog 9 #[.slice A n c, .slice A1 n1 c1] w fun e w' => e = .returned (.bool (decide (l = m))) ∧ Below w.heap.size w w' := by
  subst hn hn1
  exact (Low.same_calls A c l A1 c1 m w hr hr1 hl hm).mono fun e w' h => ⟨h.1, h.2.below⟩
theorem awake_calls (w : World) : Calls Try.prog 13 #[] w fun e w' => e = .returned (.bool true) ∧ Below w.heap.size w w' := by
  obtain ⟨k, hk⟩ := Ev.the awake_ev
  exact musterlaw04_awake.calls k true w hk
end Go.Proofs.Ytnhkbjihgepapaa.Fd
/- FieldBack: right fields written as bytes are read back, and have one form. -/
set_option linter.unusedVariables false
set_option linter.unusedSimpArgs false
namespace Go.Proofs.Ytnhkbjihgepapaa.Fd
open Go.RowKit Go.Proofs.YtnhkbjihgepapaaW.PrintWords Go.Proofs.YtnhkbjihgepapaaW.PrintLast Go.Proofs.YtnhkbjihgepapaaW.PrintMore Go.Proofs.Ytnhkbjihgepapaa.PF Go.Proofs.Ytnhkbjihgepapaa.Oct Go.Proofs.Ytnhkbjihgepapaa.EvK
attribute [local go_sem] max2_int min2_int max_two min_two max_three min_three max_four min_four
theorem Right_calls (l : List Fl) (A : Option Addr) (c n : Nat) (hn : n = l.length) (w : World) (hl : l.length ≤ 9000000000000000) (hr : Kd.C k30 w A l.length l) (hc : l.length ≤ c) : Calls Try.prog 10 #[.slice A n c] w fun e w' => e = .returned (.bool (rightL l)) ∧ Below w.heap.size w w' := by
  subst hn
  exact rightL_calls l A c w hl hr hc
/-- All refuses bytes. -/
theorem All_no (b : List Int) (A : Option Addr) (c n : Nat) (hn : n = b.length) (w : World) (hr : Kd.C (Kd.int .u8) w A b.length b) (hc : b.length ≤ c) (hb : Bts b) (hl : b.length ≤ 140737488355328) (h : allF b = ([], 40)) :
    Calls Try.prog 11 #[.slice A n c] w fun e w' => ∃ A' c', e = .returned (.tuple #[.slice A' 0 c', .int .i64 40]) ∧ Below w.heap.size w w' := by
  refine (All_calls b A c n hn w hr hc hb hl).mono ?_
  rw [h]
  rintro e w' ⟨A', c', rfl, _, _, hb⟩
  exact ⟨A', c', rfl, hb⟩
/-- All takes bytes. -/
theorem All_yes (b : List Int) (m : List Fl) (A : Option Addr) (c n : Nat) (hn : n = b.length) (w : World) (hr : Kd.C (Kd.int .u8) w A b.length b) (hc : b.length ≤ c) (hb : Bts b) (hl : b.length ≤ 140737488355328) (h : allF b = (m, 0)) (k : Nat) (hk : k = m.length) :
    Calls Try.prog 11 #[.slice A n c] w fun e w' => ∃ A' c', e = .returned (.tuple #[.slice A' k c', .int .i64 0]) ∧ k ≤ c' ∧ Kd.C k30 w' A' m.length m ∧ Below w.heap.size w w' := by
  subst hk
  refine (All_calls b A c n hn w hr hc hb hl).mono ?_
  rw [h]
  exact fun e w' h => h
theorem Put_yes (l : List Fl) (X : List Int) (A : Option Addr) (c n : Nat) (hn : n = l.length) (w : World) (hr : Kd.C k30 w A l.length l) (hc : l.length ≤ c) (hl : l.length ≤ 9000000000000000) (h : putR l = (X, 0)) (k : Nat) (hk : k = X.length) :
    Calls Try.prog 8 #[.slice A n c] w fun e w' => ∃ A' c', e = .returned (.tuple #[.slice A' k c', .int .i64 0]) ∧ k ≤ c' ∧ Kd.C (Kd.int .u8) w' A' X.length X ∧ Below w.heap.size w w' := by
  subst hk
  refine (Put_calls l A c n hn w hr hc hl).mono ?_
  rw [h]
  exact fun e w' h => h
end Go.Proofs.Ytnhkbjihgepapaa.Fd
/- A region that draws its order, all of whose operations only yield values and make memory: walked at once for every order. What is known of each operation's value stands in a family F. -/
set_option linter.unusedVariables false
namespace Go.Proofs.YtnhkbjihgepapaaW.PrintAny
open Go.RowKit Go.Proofs.YtnhkbjihgepapaaW.PrintWords
section
variable {P : Program} {ops : Array Oper} {Q : Exit → Act → World → Prop}
/-- The operations write the slots D, one each, unguarded, and wait for earlier ones alone. -/
def okAny (ops : Array Oper) (D : List Tmp) : Bool := ops.size == D.length && decide D.Nodup && (List.range ops.size).all fun i => match ops[i]? with
  | some o => o.dst == D[i]? && o.guard.isNone && o.after.all (fun e => !Region.binds .any e || decide (e.on < i))
  | none => false
/-- What operation i waits for. -/
def needsAt (ops : Array Oper) (i : Nat) : List Nat := match ops[i]? with
  | some o => (o.after.toList.filter (Region.binds .any)).map (·.on)
  | none => []
def puts (v : Nat → Value) : List Tmp → Nat → Array Value → Array Value
  | [], _, T => T
  | t :: D, k, T => puts v D (k + 1) (T.setIfInBounds t (v k))
theorem puts_far (v : Nat → Value) (t : Tmp) : ∀ D k T, t ∉ D → (puts v D k T)[t]? = T[t]?
  | [], _, _, _ => rfl
  | u :: D, k, T, h => by
    rw [puts, puts_far v t D (k + 1) _ (fun hm => h (List.mem_cons_of_mem _ hm)), Array.getElem?_setIfInBounds_ne]
    exact fun e => h (by rw [e]; exact List.mem_cons_self)
theorem puts_at (v : Nat → Value) : ∀ D k T, D.Nodup → ∀ j t, D[j]? = some t → t < T.size → (puts v D k T)[t]? = some (v (k + j))
  | [], _, _, _, _, _, h, _ => by cases h
  | u :: D, k, T, hn, 0, t, h, ht => by
    obtain rfl : u = t := by simpa using h
    rw [puts, puts_far v u D (k + 1) _ (List.nodup_cons.1 hn).1, Array.getElem?_setIfInBounds_self_of_lt ht]
    rfl
  | u :: D, k, T, hn, j + 1, t, h, ht => by
    rw [puts, puts_at v D (k + 1) _ (List.nodup_cons.1 hn).2 j t (by simpa using h) (by simpa using ht)]
    congr 2
    omega
/-- What stands while the operations come up. -/
structure Got (F : Nat → Value → World → Prop) (D : List Tmp) (a0 : Act) (w0 : World) (l : Array Bool) (a : Act) (w : World) : Prop where
  size : l.size = D.length
  bel : Below w0.heap.size w0 w
  facts : ∀ i t, D[i]? = some t → l.getD i false = true → F i (a.eval (.tmp t)) w
  dfr : a.defers = a0.defers
  tsz : a.tmps.size = a0.tmps.size
  old : ∀ t, t ∉ D → a.tmps[t]? = a0.tmps[t]?
/-- What is to be shown of one operation. -/
def StepAt (P : Program) (ops : Array Oper) (Q : Exit → Act → World → Prop) (F : Nat → Value → World → Prop) (D : List Tmp) (a0 : Act) (w0 : World) (i : Nat) : Prop :=
  ∀ o, ops[i]? = some o → ∀ a w, Below w0.heap.size w0 w → (∀ j t, D[j]? = some t → j ∈ needsAt ops i → F j (a.eval (.tmp t)) w) → (∀ t, t ∉ D → a.eval (.tmp t) = a0.eval (.tmp t)) →
    ∀ K : Act → World → Prop, (∀ v w', Below w.heap.size w w' → F i v w' → K (a.put o.dst v) w') → Oper.wp P o a w K Q
theorem below_next {w0 w w' : World} (h : Below w0.heap.size w0 w) (hb : Below w.heap.size w w') : Below w0.heap.size w0 w' := below_then h h.size hb
theorem count_set : ∀ (l : List Bool) (i : Nat), l[i]? = some false → (l.set i true).count false + 1 = l.count false
  | [], _, h => by cases h
  | b :: l, 0, h => by
    obtain rfl : b = false := by simpa using h
    simp
  | b :: l, i + 1, h => by
    have := count_set l i (by simpa using h)
    cases b <;> simp [this] <;> omega
theorem any_of_steps {F : Nat → Value → World → Prop} {D : List Tmp} {a0 : Act} {w0 : World} (hok : okAny ops D = true) (hsz : ∀ t ∈ D, t < a0.tmps.size)
    (hmono : ∀ i v w w', F i v w → Below w.heap.size w w' → F i v w') (hstep : ∀ i, i < D.length → StepAt P ops Q F D a0 w0 i)
    (hend : ∀ (v : Nat → Value) w, Below w0.heap.size w0 w → (∀ i, i < D.length → F i (v i) w) → Q .normal ⟨puts v D 0 a0.tmps, a0.defers⟩ w) :
    ∀ (fuel : Nat) (l : Array Bool) (a : Act) (w : World), l.toList.count false ≤ fuel → Got F D a0 w0 l a w → wpAny P .any ops Q fuel l a w := by
  have hok' := hok
  unfold okAny at hok'
  simp only [Bool.and_eq_true, beq_iff_eq, decide_eq_true_iff, List.all_eq_true, List.mem_range] at hok'
  obtain ⟨⟨hn, hnd⟩, hall⟩ := hok'
  have hop : ∀ i o, ops[i]? = some o → o.dst = D[i]? ∧ o.guard = none ∧ ∀ e ∈ o.after, Region.binds .any e = true → e.on < i := fun i o ho => by
    have h1 := hall i (Array.getElem?_eq_some_iff.1 ho).1
    rw [ho] at h1
    simp only [Bool.and_eq_true, beq_iff_eq, Option.isNone_iff_eq_none, Array.all_eq_true_iff_forall_mem] at h1
    exact ⟨h1.1.1, h1.1.2, fun e he hb => by
      have := h1.2 e he
      rw [hb] at this
      simpa using this⟩
  have fin : ∀ l a w, Got F D a0 w0 l a w → Region.ready .any ops l = [] → Q .normal a w := fun l a w G hr => by
    have hl : ∀ i, i < D.length → l.getD i false = true := fun i => by
      induction i using Nat.strongRecOn with
      | _ i ih =>
        intro hi
        cases hli : l.getD i false with
        | true => rfl
        | false =>
          exfalso
          have hi' : i < ops.size := by omega
          have hm : i ∈ Region.ready .any ops l := mem_ready.2 ⟨by
              have : i < l.size := by rw [G.size]; exact hi
              simp [Array.getD, this] at hli ⊢
              exact hli, ops[i], Array.getElem?_eq_getElem hi', fun e he hb => by
              have h3 := (hop i _ (Array.getElem?_eq_getElem hi')).2.2 e he hb
              exact ih e.on h3 (by omega)⟩
          rw [hr] at hm
          cases hm
    have hv : ∀ i t, D[i]? = some t → a.tmps[t]? = some (a.eval (.tmp t)) := fun i t ht => by
      have : t < a.tmps.size := by rw [G.tsz]; exact hsz t (List.mem_of_getElem? ht)
      simp [Act.eval, Array.getD, this]
    have ha : a = ⟨puts (fun i => a.eval (.tmp (D.getD i 0))) D 0 a0.tmps, a0.defers⟩ := by
      obtain ⟨T, df⟩ := a
      have h1 : df = a0.defers := G.dfr
      subst h1
      congr 1
      apply Array.ext_getElem?
      intro t
      by_cases hm : t ∈ D
      · obtain ⟨j, hj⟩ := List.mem_iff_getElem?.1 hm
        rw [puts_at _ D 0 _ hnd j t hj (hsz t hm), hv j t hj, Nat.zero_add]
        simp [List.getD, hj]
      · rw [puts_far _ t D 0 _ hm]
        exact G.old t hm
    have h2 := hend (fun i => a.eval (.tmp (D.getD i 0))) w G.bel (fun i hi => by
      have := G.facts i D[i] (List.getElem?_eq_getElem hi) (hl i hi)
      simpa [List.getD, hi] using this)
    rw [← ha] at h2
    exact h2
  intro fuel
  induction fuel with
  | zero =>
    intro l a w hc G
    have hr : Region.ready .any ops l = [] := by
      apply List.eq_nil_iff_forall_not_mem.2
      intro i hi
      obtain ⟨h1, _⟩ := mem_ready.1 hi
      have h2 : false ∈ l.toList := by
        by_cases hlt : i < l.size
        · simp [Array.getD, hlt] at h1
          rw [← h1]
          simp
        · simp [Array.getD, hlt] at h1
      have := List.count_pos_iff.2 h2
      omega
    exact ⟨hr, fin l a w G hr⟩
  | succ fuel ih =>
    intro l a w hc G
    refine ⟨fin l a w G, fun i hi => ?_⟩
    obtain ⟨h1, o, ho, hd⟩ := mem_ready.1 hi
    have hi' : i < ops.size := (Array.getElem?_eq_some_iff.1 ho).1
    have hil : i < D.length := by omega
    have hlt : i < l.size := by rw [G.size]; exact hil
    obtain ⟨hdst, hg, hback⟩ := hop i o ho
    rw [List.getElem?_eq_getElem hil] at hdst
    unfold wpOp
    rw [ho]
    have hw : Region.wanted o (yielded ops a.tmps) = true := by unfold Region.wanted; rw [hg]
    simp only [hw, if_true]
    refine Or.inl (hstep i hil o ho a w G.bel ?_ ?_ _ ?_)
    · intro j t ht hj
      unfold needsAt at hj
      rw [ho] at hj
      obtain ⟨e, he, rfl⟩ := List.mem_map.1 hj
      obtain ⟨he1, he2⟩ := List.mem_filter.1 he
      exact G.facts e.on t ht (hd e (by simpa using he1) he2)
    · intro t ht
      have := G.old t ht
      unfold Act.eval
      simp only [Array.getD_eq_getD_getElem?, this]
    · intro v w' hb hF
      refine ih _ _ _ ?_ ⟨by simp [G.size], below_next G.bel hb, ?_, ?_, ?_, ?_⟩
      · have := count_set l.toList i (by
          rw [Array.getElem?_toList, Array.getElem?_eq_getElem hlt]
          simp [Array.getD, hlt] at h1
          rw [h1])
        rw [Array.toList_setIfInBounds]
        omega
      · intro j t ht hj
        rw [hdst]
        by_cases hij : j = i
        · subst hij
          obtain rfl : D[j] = t := by rw [List.getElem?_eq_getElem hil] at ht; exact Option.some.inj ht
          have hs : D[j] < a.tmps.size := by rw [G.tsz]; exact hsz _ (List.getElem_mem hil)
          have : (a.put (some D[j]) v).eval (.tmp D[j]) = v := by simp [Act.put, Act.eval, Array.getD, hs]
          rw [this]
          exact hF
        · have hne : D[i] ≠ t := fun e => hij (by
            have hj' : j < D.length := (List.getElem?_eq_some_iff.1 ht).1
            have h3 : D[j] = D[i] := by rw [e]; rw [List.getElem?_eq_getElem hj'] at ht; exact Option.some.inj ht
            exact (List.getElem_inj hnd).1 h3)
          have h4 : (a.put (some D[i]) v).eval (.tmp t) = a.eval (.tmp t) := by
            simp only [Act.put, Act.eval, Array.getD_eq_getD_getElem?, Array.getElem?_setIfInBounds_ne hne]
          rw [h4]
          refine hmono _ _ _ _ (G.facts j t ht ?_) hb
          rw [← hj]
          exact (getD_set_ne false (fun e => hij e.symm)).symm
      · rw [hdst]; exact G.dfr
      · rw [hdst]; simp [Act.put, G.tsz]
      · intro t ht
        rw [hdst]
        have hne : D[i] ≠ t := fun e => ht (by rw [← e]; exact List.getElem_mem hil)
        simp only [Act.put, Array.getElem?_setIfInBounds_ne hne]
        exact G.old t ht
/-- The region, at once. -/
theorem region_any {F : Nat → Value → World → Prop} {D : List Tmp} {a0 : Act} {w : World} {id : Nat} (hm : P.follows .mixedOrders = true) (hok : okAny ops D = true) (hsz : ∀ t ∈ D, t < a0.tmps.size)
    (hmono : ∀ i v w w', F i v w → Below w.heap.size w w' → F i v w') (hstep : ∀ i, i < D.length → StepAt P ops Q F D a0 w.drew i)
    (hend : ∀ (v : Nat → Value) W, Below w.drew.heap.size w.drew W → (∀ i, i < D.length → F i (v i) W) → Q .normal ⟨puts v D 0 a0.tmps, a0.defers⟩ W) : (Code.region id ops true).wp P Q a0 w := by
  have hn : ops.size = D.length := by
    unfold okAny at hok
    simp only [Bool.and_eq_true, beq_iff_eq] at hok
    exact hok.1.1
  refine wp_region_any hm (any_of_steps hok hsz hmono hstep hend ops.size _ a0 w.drew (by simp) ⟨by simp [hn], Below.refl _ _, ?_, rfl, rfl, fun _ _ => rfl⟩)
  intro i t ht h
  exfalso
  by_cases hi : i < ops.size <;> simp [Array.getD, hi] at h
theorem arm_ {F : Nat → Value → World → Prop} {D : List Tmp} {a0 : Act} {w0 : World} {i : Nat} {o : Oper} (ho : ops[i]? = some o)
    (h : ∀ (a : Act) (w : World), Below w0.heap.size w0 w → (∀ j t, D[j]? = some t → j ∈ needsAt ops i → F j (a.eval (.tmp t)) w) → (∀ t, t ∉ D → a.eval (.tmp t) = a0.eval (.tmp t)) → ∃ v w', (execOp a.eval o).run P w = .ok (.value v) w' ∧ Below w.heap.size w w' ∧ F i v w') : StepAt P ops Q F D a0 w0 i := by
  intro o' ho' a w hb hd hold K hK
  obtain rfl := Option.some.inj (ho.symm.trans ho')
  obtain ⟨v, w', he, h1, h2⟩ := h a w hb hd hold
  unfold Oper.wp
  rw [he]
  exact hK v w' h1 h2
theorem arm_wp {F : Nat → Value → World → Prop} {D : List Tmp} {a0 : Act} {w0 : World} {i : Nat} {o : Oper} (ho : ops[i]? = some o)
    (h : ∀ (a : Act) (w : World), Below w0.heap.size w0 w → (∀ j t, D[j]? = some t → j ∈ needsAt ops i → F j (a.eval (.tmp t)) w) → (∀ t, t ∉ D → a.eval (.tmp t) = a0.eval (.tmp t)) → ∀ K : Act → World → Prop, (∀ v w', Below w.heap.size w w' → F i v w' → K (a.put o.dst v) w') → Oper.wp P o a w K Q) : StepAt P ops Q F D a0 w0 i := by
  intro o' ho'
  obtain rfl := Option.some.inj (ho.symm.trans ho')
  exact h
end
end Go.Proofs.YtnhkbjihgepapaaW.PrintAny
/- What is known of the values of FieldNumbers' lists. (A part of the print PF.) -/
set_option linter.unusedVariables false
set_option linter.unusedSimpArgs false
namespace Go.Proofs.Ytnhkbjihgepapaa.Fd
open Go.RowKit Go.Proofs.YtnhkbjihgepapaaW.PrintWords Go.Proofs.YtnhkbjihgepapaaW.PrintLast Go.Proofs.YtnhkbjihgepapaaW.PrintMore Go.Proofs.YtnhkbjihgepapaaW.PrintAny Go.Proofs.Ytnhkbjihgepapaa.PF
/-- What is known of a value. -/
inductive Pr where
  | ag (x : Fl)
  | fs (l : List Fl)
  | ns (l : List Int)
  | ts (l : List ByteArray)
  | bs (l : List Int)
  | va (v : Value)
  | ll (L : List (List Fl))
  | bx (l : List Int)
  | lb (L : List (List Int))
  | pt (k : Nat) (e : Int)
  | sl (k : Nat)
def Pr.holds : Pr → Value → World → Prop
  | .ag x, v, w => ∃ cs, v = .agg cs ∧ k30.K w x cs.toList
  | .fs l, v, w => ∃ A c, v = .slice A l.length c ∧ l.length ≤ c ∧ Kd.C k30 w A l.length l
  | .ns l, v, w => ∃ A c, v = .slice A l.length c ∧ l.length ≤ c ∧ Kd.C (Kd.int .i64) w A l.length l
  | .ts l, v, w => ∃ A c, v = .slice A l.length c ∧ l.length ≤ c ∧ Kd.C Kd.string w A l.length l
  | .bs l, v, w => ∃ A c, v = .slice A l.length c ∧ l.length ≤ c ∧ Kd.C (Kd.int .u8) w A l.length l
  | .va u, v, w => v = u
  | .ll L, v, w => ∃ A c, v = .slice A L.length c ∧ L.length ≤ c ∧ Kd.C (Kd.slice 30 k30) w A L.length L
  | .bx l, v, w => ∃ ad, v = .slice (some ad) l.length l.length ∧ Kd.C (Kd.int .u8) w (some ad) l.length l
  | .lb L, v, w => ∃ A c, v = .slice A L.length c ∧ L.length ≤ c ∧ Kd.C (Kd.slice 5 (Kd.int .u8)) w A L.length L
  | .pt k e, v, w => ∃ A c, v = .tuple #[.slice A k c, .int .i64 e]
  | .sl k, v, w => ∃ A c, v = .slice A k c
theorem Pr.mono (p : Pr) (v : Value) (w w' : World) (h : p.holds v w) (hb : Below w.heap.size w w') : p.holds v w' := by
  cases p with
  | ag x => obtain ⟨cs, h1, h2⟩ := h; exact ⟨cs, h1, k30.K_below hb h2⟩
  | fs l => obtain ⟨A, c, h1, h0, h2⟩ := h; exact ⟨A, c, h1, h0, Kd.C_below h2 hb⟩
  | ns l => obtain ⟨A, c, h1, h0, h2⟩ := h; exact ⟨A, c, h1, h0, Kd.C_below h2 hb⟩
  | ts l => obtain ⟨A, c, h1, h0, h2⟩ := h; exact ⟨A, c, h1, h0, Kd.C_below h2 hb⟩
  | bs l => obtain ⟨A, c, h1, h0, h2⟩ := h; exact ⟨A, c, h1, h0, Kd.C_below h2 hb⟩
  | va u => exact h
  | ll L => obtain ⟨A, c, h1, h0, h2⟩ := h; exact ⟨A, c, h1, h0, Kd.C_below h2 hb⟩
  | bx l => obtain ⟨A, h1, h2⟩ := h; exact ⟨A, h1, Kd.C_below h2 hb⟩
  | lb L => obtain ⟨A, c, h1, h0, h2⟩ := h; exact ⟨A, c, h1, h0, Kd.C_below h2 hb⟩
  | pt k e => exact h
  | sl k => exact h
def Fam (S : List Pr) (i : Nat) (v : Value) (w : World) : Prop := match S[i]? with
  | some p => p.holds v w
  | none => True
theorem Fam.mono (S : List Pr) (i : Nat) (v : Value) (w w' : World) (h : Fam S i v w) (hb : Below w.heap.size w w') : Fam S i v w' := by
  unfold Fam at h ⊢
  cases hp : S[i]? with
  | none => trivial
  | some p => rw [hp] at h; exact p.mono v w w' h hb
theorem ag_mk {w : World} (x : Fl) {A4 A5 : Option Addr} {c4 c5 : Nat} (l4 : x.f4.length ≤ c4) (g4 : (Kd.int .i64).C w A4 x.f4.length x.f4) (l5 : x.f5.length ≤ c5) (g5 : Kd.string.C w A5 x.f5.length x.f5) :
    (Pr.ag x).holds (.agg #[.int .u8 x.f0, .int .u8 x.f1, .int .i64 x.f2, .string x.f3, .slice A4 x.f4.length c4, .slice A5 x.f5.length c5]) w := ⟨_, rfl, k30_mk w x l4 g4 l5 g5⟩
theorem C_lit {α : Type} (d : Kd α) {w : World} {g t : Nat} {cells : Array Value} (h : w.heap[g]? = some (.cells cells t (0, 0))) (xs : List α) (css : Nat → List Value) (hl : xs.length ≤ 1000) (hk : ∀ j x, xs[j]? = some x → (css j).length = d.sz ∧ d.K w x (css j) ∧ ∀ i v, (css j)[i]? = some v → cells[j * d.sz + i]? = some v) : Kd.C d w (some ⟨g, 0, none⟩) xs.length xs := by
  refine ⟨rfl, by omega, fun _ => ⟨_, rfl, fun j x hx => ?_⟩⟩
  obtain ⟨h1, h2, h3⟩ := hk j x hx
  refine ⟨css j, h1, h2, fun i v hv => ?_⟩
  rw [Addr.add_mid, Nat.zero_add, blk_cell h]
  exact h3 i v hv
def fcells (x : Fl) (A4 : Option Addr) (c4 : Nat) (A5 : Option Addr) (c5 : Nat) : List Value := [.int .u8 x.f0, .int .u8 x.f1, .int .i64 x.f2, .string x.f3, .slice A4 x.f4.length c4, .slice A5 x.f5.length c5]
theorem ag_open {x : Fl} {v : Value} {w : World} (h : (Pr.ag x).holds v w) : ∃ A4 c4 A5 c5, v = .agg (fcells x A4 c4 A5 c5).toArray ∧ ∀ W, Below w.heap.size w W → k30.K W x (fcells x A4 c4 A5 c5) := by
  obtain ⟨cs, rfl, hK⟩ := h
  obtain ⟨A4, c4, A5, c5, he, l4, g4, l5, g5⟩ := k30_open hK
  exact ⟨A4, c4, A5, c5, by unfold fcells; rw [← he], fun W hb => k30_mk W x l4 (Kd.C_below g4 hb) l5 (Kd.C_below g5 hb)⟩
/-- A list of one field. -/
theorem fs1 {a : Act} {w : World} {o : Oper} {x : Operand} (ho : o.op = .buildSlice 31 1 #[(0, x)]) {X : Fl} (hx : (Pr.ag X).holds (a.eval x) w) :
    ∃ v w', (execOp a.eval o).run Try.prog w = .ok (.value v) w' ∧ Below w.heap.size w w' ∧ (Pr.fs [X]).holds v w' := by
  obtain ⟨A4, c4, A5, c5, hv, hK⟩ := ag_open hx
  have hr : (execOp a.eval o).run Try.prog w = .ok (.value (.slice (some ⟨w.heap.size, 0, none⟩) 1 1)) (w.alloc (.cells #[.int .u8 X.f0, .int .u8 X.f1, .int .i64 X.f2, .string X.f3, .slice A4 X.f4.length c4, .slice A5 X.f5.length c5] 30)) := by
    unfold execOp
    rw [ho]
    unfold fcells at hv
    simp only [List.map_toArray, List.map_cons, List.map_nil, hv]
    go_simp
  have hb := fun O => below_alloc (Below.refl w.heap.size w) O
  refine ⟨_, _, hr, hb _, some ⟨w.heap.size, 0, none⟩, 1, rfl, Nat.le_refl _, C_lit _ (heap_alloc_new w _) [X] (fun _ => fcells X A4 c4 A5 c5) (by simp) ?_⟩
  intro j x hx
  match j, hx with
  | 0, hx =>
    obtain rfl : X = x := by simpa using hx
    exact ⟨rfl, hK _ (hb _), fun i v hv => by rw [Nat.zero_mul, Nat.zero_add]; simpa [fcells] using hv⟩
/-- A list of two. -/
theorem fs2 {a : Act} {w : World} {o : Oper} {x y : Operand} (ho : o.op = .buildSlice 31 2 #[(0, x), (1, y)]) {X Y : Fl} (hx : (Pr.ag X).holds (a.eval x) w) (hy : (Pr.ag Y).holds (a.eval y) w) :
    ∃ v w', (execOp a.eval o).run Try.prog w = .ok (.value v) w' ∧ Below w.heap.size w w' ∧ (Pr.fs [X, Y]).holds v w' := by
  obtain ⟨A4, c4, A5, c5, hv, hK⟩ := ag_open hx
  obtain ⟨B4, d4, B5, d5, hu, hL⟩ := ag_open hy
  have hr : (execOp a.eval o).run Try.prog w = .ok (.value (.slice (some ⟨w.heap.size, 0, none⟩) 2 2)) (w.alloc (.cells #[.int .u8 X.f0, .int .u8 X.f1, .int .i64 X.f2, .string X.f3, .slice A4 X.f4.length c4, .slice A5 X.f5.length c5, .int .u8 Y.f0, .int .u8 Y.f1, .int .i64 Y.f2, .string Y.f3, .slice B4 Y.f4.length d4, .slice B5 Y.f5.length d5] 30)) := by
    unfold execOp
    rw [ho]
    unfold fcells at hv hu
    simp only [List.map_toArray, List.map_cons, List.map_nil, hv, hu]
    go_simp
  have hb := fun O => below_alloc (Below.refl w.heap.size w) O
  refine ⟨_, _, hr, hb _, some ⟨w.heap.size, 0, none⟩, 2, rfl, Nat.le_refl _, C_lit _ (heap_alloc_new w _) [X, Y] (fun j => if j = 0 then fcells X A4 c4 A5 c5 else fcells Y B4 d4 B5 d5) (by simp) ?_⟩
  intro j x hx
  match j, hx with
  | 0, hx =>
    obtain rfl : X = x := by simpa using hx
    refine ⟨rfl, hK _ (hb _), fun i v hv => ?_⟩
    rw [Nat.zero_mul, Nat.zero_add]
    have hi : i < 6 := by have := (List.getElem?_eq_some_iff.1 hv).1; simpa [fcells] using this
    match i, hi, hv with
    | 0, _, hv | 1, _, hv | 2, _, hv | 3, _, hv | 4, _, hv | 5, _, hv => exact hv
  | 1, hx =>
    obtain rfl : Y = x := by simpa using hx
    refine ⟨rfl, hL _ (hb _), fun i v hv => ?_⟩
    have hi : i < 6 := by have := (List.getElem?_eq_some_iff.1 hv).1; simpa [fcells] using this
    match i, hi, hv with
    | 0, _, hv | 1, _, hv | 2, _, hv | 3, _, hv | 4, _, hv | 5, _, hv => exact hv
/-- A list made of noughts. -/
theorem mk_arm {α : Type} {P : Program} {Q : Exit → Act → World → Prop} {o : Oper} {a : Act} {w : World} (d : Kd α) (t e : TypeId) (n : Nat) (ho : o.op = .makeSlice t (.const (.int .i64 (n : Int))) (.const (.int .i64 (n : Int)))) {N : Tmp} (hd : o.dst = some N) (hg : o.guard = none)
    (ht : P.underlying t = some (.slice e)) (z : Value) (bytes : Nat) (hinfo : (P.info? e).map (fun i => (i.zero, i.size, i.bytes)) = some (some z, d.sz, bytes)) (hz : z.cells.size = d.sz) (hs0 : 0 < d.sz) (hb0 : 0 < bytes) (z0 : α) (hzero : d.M w w.heap.size (fun _ => False) z0 z.cells.toList) (hl : n * bytes ≤ 281474976710656)
    (K : Act → World → Prop) (hK : ∀ v w', Below w.heap.size w w' → (∃ A c, v = .slice A n c ∧ n ≤ c ∧ d.C w' A n (List.replicate n z0)) → K (a.put o.dst v) w') : Oper.wp P o a w K Q := by
  have hw : Region.wanted o (yielded #[] a.tmps) = true := by unfold Region.wanted; rw [hg]
  have h := Kd.R_make_step (P := P) (ops := #[]) (o := o) (a := a) (W := w) (Q := Q) (Kc := K) d (w0 := w) w.heap.size e hw hd t _ _ ho (n : Int) rfl rfl ht z bytes hinfo hz hs0 hb0 z0 (ok := fun _ => True) hzero (fun _ h => h.elim) trivial (by omega) (by simpa using hl) (Below.refl _ _) (Nat.le_refl _)
    (fun v1 w1 hR hB _ _ => hK v1 w1 hB (by
      obtain ⟨A, c, h1, h2, h3⟩ := Kd.R_reads hR
      simp only [Int.toNat_natCast, List.length_replicate] at h1 h2 h3
      exact ⟨A, c, h1, h2, h3⟩))
  rw [if_pos hw] at h
  exact h
end Go.Proofs.Ytnhkbjihgepapaa.Fd
/- FieldNumbers: the lists that are not right (region 9). (A part of the print PF.) -/
set_option linter.unusedVariables false
set_option linter.unusedSimpArgs false
namespace Go.Proofs.Ytnhkbjihgepapaa.Fd
open Go.RowKit Go.Proofs.YtnhkbjihgepapaaW.PrintWords Go.Proofs.YtnhkbjihgepapaaW.PrintLast Go.Proofs.YtnhkbjihgepapaaW.PrintMore Go.Proofs.YtnhkbjihgepapaaW.PrintAny Go.Proofs.Ytnhkbjihgepapaa.PF
theorem needs_mem {ops : Array Oper} {i j : Nat} (h : (needsAt ops i).contains j = true) : j ∈ needsAt ops i := by simpa using h
section
variable {a : Act} {w : World} {o : Oper}
theorem b2 {x : Fl} (ho : o.op = .build 30 #[(0, .const (.int .u8 x.f0)), (1, .const (.int .u8 x.f1))]) (h2 : x.f2 = 0 := by rfl) (h3 : x.f3 = ⟨#[]⟩ := by rfl) (h4 : x.f4 = [] := by rfl) (h5 : x.f5 = [] := by rfl) :
    ∃ v w', (execOp a.eval o).run Try.prog w = .ok (.value v) w' ∧ Below w.heap.size w w' ∧ (Pr.ag x).holds v w' := by
  obtain ⟨x0, x1, x2, x3, x4, x5⟩ := x
  simp only at h2 h3 h4 h5 ho
  subst h2 h3 h4 h5
  have hr : (execOp a.eval o).run Try.prog w = .ok (.value (.agg #[.int .u8 x0, .int .u8 x1, .int .i64 0, .string ⟨#[]⟩, .slice none 0 0, .slice none 0 0])) w := by
    unfold execOp
    rw [ho]
    simp only [List.map_toArray, List.map_cons, List.map_nil, Act.eval]
    go_simp
  exact ⟨_, _, hr, Below.refl _ _, ag_mk ⟨x0, x1, 0, ⟨#[]⟩, [], []⟩ (Nat.le_refl 0) (Kd.C_nil _ _) (Nat.le_refl 0) (Kd.C_nil _ _)⟩
theorem b3 {x : Fl} (ho : o.op = .build 30 #[(0, .const (.int .u8 x.f0)), (1, .const (.int .u8 x.f1)), (2, .const (.int .i64 x.f2))]) (h3 : x.f3 = ⟨#[]⟩ := by rfl) (h4 : x.f4 = [] := by rfl) (h5 : x.f5 = [] := by rfl) :
    ∃ v w', (execOp a.eval o).run Try.prog w = .ok (.value v) w' ∧ Below w.heap.size w w' ∧ (Pr.ag x).holds v w' := by
  obtain ⟨x0, x1, x2, x3, x4, x5⟩ := x
  simp only at h3 h4 h5 ho
  subst h3
  subst h4
  subst h5
  have hr : (execOp a.eval o).run Try.prog w = .ok (.value (.agg #[.int .u8 x0, .int .u8 x1, .int .i64 x2, .string ⟨#[]⟩, .slice none 0 0, .slice none 0 0])) w := by
    unfold execOp
    rw [ho]
    simp only [List.map_toArray, List.map_cons, List.map_nil]
    simp only [Act.eval]
    go_simp
  exact ⟨_, _, hr, Below.refl _ _, ag_mk ⟨x0, x1, x2, ⟨#[]⟩, [], []⟩ (Nat.le_refl 0) (Kd.C_nil _ _) (Nat.le_refl 0) (Kd.C_nil _ _)⟩
theorem b4 {x : Fl} (ho : o.op = .build 30 #[(0, .const (.int .u8 x.f0)), (1, .const (.int .u8 x.f1)), (2, .const (.int .i64 x.f2)), (3, .const (.string x.f3))]) (h4 : x.f4 = [] := by rfl) (h5 : x.f5 = [] := by rfl) :
    ∃ v w', (execOp a.eval o).run Try.prog w = .ok (.value v) w' ∧ Below w.heap.size w w' ∧ (Pr.ag x).holds v w' := by
  obtain ⟨x0, x1, x2, x3, x4, x5⟩ := x
  simp only at h4 h5 ho
  subst h4
  subst h5
  have hr : (execOp a.eval o).run Try.prog w = .ok (.value (.agg #[.int .u8 x0, .int .u8 x1, .int .i64 x2, .string x3, .slice none 0 0, .slice none 0 0])) w := by
    unfold execOp
    rw [ho]
    simp only [List.map_toArray, List.map_cons, List.map_nil]
    simp only [Act.eval]
    go_simp
  exact ⟨_, _, hr, Below.refl _ _, ag_mk ⟨x0, x1, x2, x3, [], []⟩ (Nat.le_refl 0) (Kd.C_nil _ _) (Nat.le_refl 0) (Kd.C_nil _ _)⟩
theorem bS {x : Fl} {y : Operand} (ho : o.op = .build 30 #[(0, .const (.int .u8 x.f0)), (1, .const (.int .u8 x.f1)), (3, y)]) (hy : (Pr.va (.string x.f3)).holds (a.eval y) w) (h2 : x.f2 = 0 := by rfl) (h4 : x.f4 = [] := by rfl) (h5 : x.f5 = [] := by rfl) :
    ∃ v w', (execOp a.eval o).run Try.prog w = .ok (.value v) w' ∧ Below w.heap.size w w' ∧ (Pr.ag x).holds v w' := by
  obtain ⟨x0, x1, x2, x3, x4, x5⟩ := x
  simp only at h2 h4 h5 ho
  subst h2
  subst h4
  subst h5
  replace hy : a.eval y = .string x3 := hy
  have hr : (execOp a.eval o).run Try.prog w = .ok (.value (.agg #[.int .u8 x0, .int .u8 x1, .int .i64 0, .string x3, .slice none 0 0, .slice none 0 0])) w := by
    unfold execOp
    rw [ho]
    simp only [List.map_toArray, List.map_cons, List.map_nil, hy]
    simp only [Act.eval]
    go_simp
  exact ⟨_, _, hr, Below.refl _ _, ag_mk ⟨x0, x1, 0, x3, [], []⟩ (Nat.le_refl 0) (Kd.C_nil _ _) (Nat.le_refl 0) (Kd.C_nil _ _)⟩
theorem bN {x : Fl} {y : Operand} (ho : o.op = .build 30 #[(0, .const (.int .u8 x.f0)), (1, .const (.int .u8 x.f1)), (4, y)]) (hy : (Pr.ns x.f4).holds (a.eval y) w) (h2 : x.f2 = 0 := by rfl) (h3 : x.f3 = ⟨#[]⟩ := by rfl) (h5 : x.f5 = [] := by rfl) :
    ∃ v w', (execOp a.eval o).run Try.prog w = .ok (.value v) w' ∧ Below w.heap.size w w' ∧ (Pr.ag x).holds v w' := by
  obtain ⟨x0, x1, x2, x3, x4, x5⟩ := x
  simp only at h2 h3 h5 ho
  subst h2
  subst h3
  subst h5
  obtain ⟨A4, c4, hv, l4, g4⟩ := hy
  have hr : (execOp a.eval o).run Try.prog w = .ok (.value (.agg #[.int .u8 x0, .int .u8 x1, .int .i64 0, .string ⟨#[]⟩, .slice A4 x4.length c4, .slice none 0 0])) w := by
    unfold execOp
    rw [ho]
    simp only [List.map_toArray, List.map_cons, List.map_nil, hv]
    simp only [Act.eval]
    go_simp
  exact ⟨_, _, hr, Below.refl _ _, ag_mk ⟨x0, x1, 0, ⟨#[]⟩, x4, []⟩ l4 g4 (Nat.le_refl 0) (Kd.C_nil _ _)⟩
theorem bT {x : Fl} {y : Operand} (ho : o.op = .build 30 #[(0, .const (.int .u8 x.f0)), (1, .const (.int .u8 x.f1)), (5, y)]) (hy : (Pr.ts x.f5).holds (a.eval y) w) (h2 : x.f2 = 0 := by rfl) (h3 : x.f3 = ⟨#[]⟩ := by rfl) (h4 : x.f4 = [] := by rfl) :
    ∃ v w', (execOp a.eval o).run Try.prog w = .ok (.value v) w' ∧ Below w.heap.size w w' ∧ (Pr.ag x).holds v w' := by
  obtain ⟨x0, x1, x2, x3, x4, x5⟩ := x
  simp only at h2 h3 h4 ho
  subst h2
  subst h3
  subst h4
  obtain ⟨A5, c5, hv, l5, g5⟩ := hy
  have hr : (execOp a.eval o).run Try.prog w = .ok (.value (.agg #[.int .u8 x0, .int .u8 x1, .int .i64 0, .string ⟨#[]⟩, .slice none 0 0, .slice A5 x5.length c5])) w := by
    unfold execOp
    rw [ho]
    simp only [List.map_toArray, List.map_cons, List.map_nil, hv]
    simp only [Act.eval]
    go_simp
  exact ⟨_, _, hr, Below.refl _ _, ag_mk ⟨x0, x1, 0, ⟨#[]⟩, [], x5⟩ (Nat.le_refl 0) (Kd.C_nil _ _) l5 g5⟩
theorem bNT {x : Fl} {y z : Operand} (ho : o.op = .build 30 #[(0, .const (.int .u8 x.f0)), (1, .const (.int .u8 x.f1)), (4, y), (5, z)]) (hy : (Pr.ns x.f4).holds (a.eval y) w) (hz : (Pr.ts x.f5).holds (a.eval z) w) (h2 : x.f2 = 0 := by rfl) (h3 : x.f3 = ⟨#[]⟩ := by rfl) :
    ∃ v w', (execOp a.eval o).run Try.prog w = .ok (.value v) w' ∧ Below w.heap.size w w' ∧ (Pr.ag x).holds v w' := by
  obtain ⟨x0, x1, x2, x3, x4, x5⟩ := x
  simp only at h2 h3 ho
  subst h2
  subst h3
  obtain ⟨A4, c4, hv, l4, g4⟩ := hy
  obtain ⟨A5, c5, hu, l5, g5⟩ := hz
  have hr : (execOp a.eval o).run Try.prog w = .ok (.value (.agg #[.int .u8 x0, .int .u8 x1, .int .i64 0, .string ⟨#[]⟩, .slice A4 x4.length c4, .slice A5 x5.length c5])) w := by
    unfold execOp
    rw [ho]
    simp only [List.map_toArray, List.map_cons, List.map_nil, hv, hu]
    simp only [Act.eval]
    go_simp
  exact ⟨_, _, hr, Below.refl _ _, ag_mk ⟨x0, x1, 0, ⟨#[]⟩, x4, x5⟩ l4 g4 l5 g5⟩
theorem ns1 (ho : o.op = .buildSlice 27 1 #[(0, .const (.int .i64 1))]) : ∃ v w', (execOp a.eval o).run Try.prog w = .ok (.value v) w' ∧ Below w.heap.size w w' ∧ (Pr.ns [1]).holds v w' := by
  have hr : (execOp a.eval o).run Try.prog w = .ok (.value (.slice (some ⟨w.heap.size, 0, none⟩) 1 1)) (w.alloc (.cells #[.int .i64 1] 2)) := by
    unfold execOp
    rw [ho]
    simp only [List.map_toArray, List.map_cons, List.map_nil, Act.eval]
    go_simp
  refine ⟨_, _, hr, below_alloc (Below.refl _ _) _, some ⟨w.heap.size, 0, none⟩, 1, rfl, Nat.le_refl _, C_lit _ (heap_alloc_new w _) [1] (fun _ => [.int .i64 1]) (by simp) ?_⟩
  intro j x hx
  match j, hx with
  | 0, hx =>
    obtain rfl : 1 = x := by simpa using hx
    exact ⟨rfl, rfl, fun i v hv => by rw [Nat.zero_mul, Nat.zero_add]; simpa using hv⟩
theorem ts1 {y : Operand} {s : ByteArray} (ho : o.op = .buildSlice 28 1 #[(0, y)]) (hy : (Pr.va (.string s)).holds (a.eval y) w) : ∃ v w', (execOp a.eval o).run Try.prog w = .ok (.value v) w' ∧ Below w.heap.size w w' ∧ (Pr.ts [s]).holds v w' := by
  replace hy : a.eval y = .string s := hy
  have hr : (execOp a.eval o).run Try.prog w = .ok (.value (.slice (some ⟨w.heap.size, 0, none⟩) 1 1)) (w.alloc (.cells #[.string s] 9)) := by
    unfold execOp
    rw [ho]
    simp only [List.map_toArray, List.map_cons, List.map_nil, hy]
    go_simp
  refine ⟨_, _, hr, below_alloc (Below.refl _ _) _, some ⟨w.heap.size, 0, none⟩, 1, rfl, Nat.le_refl _, C_lit _ (heap_alloc_new w _) [s] (fun _ => [.string s]) (by simp) ?_⟩
  intro j x hx
  match j, hx with
  | 0, hx =>
    obtain rfl : s = x := by simpa using hx
    exact ⟨rfl, rfl, fun i v hv => by rw [Nat.zero_mul, Nat.zero_add]; simpa using hv⟩
theorem len_ex {y : Operand} {A : Option Addr} {n c : Nat} (ho : o.op = .call { callee := .builtin .len, args := #[y], argTypes := #[33] }) (hty : o.type = 3) (hv : a.eval y = .slice A n c) : (execOp a.eval o).run Try.prog w = .ok (.value (.int .i64 n)) w := by
  unfold execOp
  rw [ho]
  obtain ⟨ρ, hρ⟩ : ∃ r, r = a.eval := ⟨_, rfl⟩
  rw [← hρ] at hv ⊢
  clear hρ
  simp only [List.map_toArray, List.map_cons, List.map_nil, hty]
  simp [hv]
  go_simp
theorem cv {y : Operand} {l : List Int} (ho : o.op = .convert 22 9 y) (hy : (Pr.bs l).holds (a.eval y) w) : ∃ v w', (execOp a.eval o).run Try.prog w = .ok (.value v) w' ∧ Below w.heap.size w w' ∧ (Pr.va (.string (strOfNums l))).holds v w' := by
  obtain ⟨A, c, hv, hl, hC⟩ := hy
  refine ⟨_, w, ?_, Below.refl _ _, rfl⟩
  unfold execOp
  rw [ho]
  simp only [hv, Sem.run_bind, Kd.C_string Try.underlying22 Try.underlying5 Try.underlying9 hC, Result.andThen_ok]
  rfl
end
set_option maxHeartbeats 8000000 in
set_option maxRecDepth 100000 in
/-- Fifteen lists of fields in a list. -/
theorem LL15 {a : Act} {w : World} {o : Oper} {y0 y1 y2 y3 y4 y5 y6 y7 y8 y9 y10 y11 y12 y13 y14 : Operand} (ho : o.op = .buildSlice 33 15 #[(0, y0), (1, y1), (2, y2), (3, y3), (4, y4), (5, y5), (6, y6), (7, y7), (8, y8), (9, y9), (10, y10), (11, y11), (12, y12), (13, y13), (14, y14)]) {X0 X1 X2 X3 X4 X5 X6 X7 X8 X9 X10 X11 X12 X13 X14 : List Fl} {A0 A1 A2 A3 A4 A5 A6 A7 A8 A9 A10 A11 A12 A13 A14 : Option Addr} {c0 c1 c2 c3 c4 c5 c6 c7 c8 c9 c10 c11 c12 c13 c14 : Nat} (v0 : a.eval y0 = .slice A0 X0.length c0) (l0 : X0.length ≤ c0) (g0 : Kd.C k30 w A0 X0.length X0) (v1 : a.eval y1 = .slice A1 X1.length c1) (l1 : X1.length ≤ c1) (g1 : Kd.C k30 w A1 X1.length X1) (v2 : a.eval y2 = .slice A2 X2.length c2) (l2 : X2.length ≤ c2) (g2 : Kd.C k30 w A2 X2.length X2) (v3 : a.eval y3 = .slice A3 X3.length c3) (l3 : X3.length ≤ c3) (g3 : Kd.C k30 w A3 X3.length X3) (v4 : a.eval y4 = .slice A4 X4.length c4) (l4 : X4.length ≤ c4) (g4 : Kd.C k30 w A4 X4.length X4) (v5 : a.eval y5 = .slice A5 X5.length c5) (l5 : X5.length ≤ c5) (g5 : Kd.C k30 w A5 X5.length X5) (v6 : a.eval y6 = .slice A6 X6.length c6) (l6 : X6.length ≤ c6) (g6 : Kd.C k30 w A6 X6.length X6) (v7 : a.eval y7 = .slice A7 X7.length c7) (l7 : X7.length ≤ c7) (g7 : Kd.C k30 w A7 X7.length X7) (v8 : a.eval y8 = .slice A8 X8.length c8) (l8 : X8.length ≤ c8) (g8 : Kd.C k30 w A8 X8.length X8) (v9 : a.eval y9 = .slice A9 X9.length c9) (l9 : X9.length ≤ c9) (g9 : Kd.C k30 w A9 X9.length X9) (v10 : a.eval y10 = .slice A10 X10.length c10) (l10 : X10.length ≤ c10) (g10 : Kd.C k30 w A10 X10.length X10) (v11 : a.eval y11 = .slice A11 X11.length c11) (l11 : X11.length ≤ c11) (g11 : Kd.C k30 w A11 X11.length X11) (v12 : a.eval y12 = .slice A12 X12.length c12) (l12 : X12.length ≤ c12) (g12 : Kd.C k30 w A12 X12.length X12) (v13 : a.eval y13 = .slice A13 X13.length c13) (l13 : X13.length ≤ c13) (g13 : Kd.C k30 w A13 X13.length X13) (v14 : a.eval y14 = .slice A14 X14.length c14) (l14 : X14.length ≤ c14) (g14 : Kd.C k30 w A14 X14.length X14) : ∃ v w', (execOp a.eval o).run Try.prog w = .ok (.value v) w' ∧ Below w.heap.size w w' ∧ (Pr.ll [X0, X1, X2, X3, X4, X5, X6, X7, X8, X9, X10, X11, X12, X13, X14]).holds v w' := by
  have hr : (execOp a.eval o).run Try.prog w = .ok (.value (.slice (some ⟨w.heap.size, 0, none⟩) 15 15)) (w.alloc (.cells #[.slice A0 X0.length c0, .slice A1 X1.length c1, .slice A2 X2.length c2, .slice A3 X3.length c3, .slice A4 X4.length c4, .slice A5 X5.length c5, .slice A6 X6.length c6, .slice A7 X7.length c7, .slice A8 X8.length c8, .slice A9 X9.length c9, .slice A10 X10.length c10, .slice A11 X11.length c11, .slice A12 X12.length c12, .slice A13 X13.length c13, .slice A14 X14.length c14] 31)) := by
    unfold execOp
    rw [ho]
    simp only [List.map_toArray, List.map_cons, List.map_nil, v0, v1, v2, v3, v4, v5, v6, v7, v8, v9, v10, v11, v12, v13, v14]
    go_simp
  have hb := fun O => below_alloc (Below.refl w.heap.size w) O
  refine ⟨_, _, hr, hb _, some ⟨w.heap.size, 0, none⟩, 15, rfl, Nat.le_refl _, C_lit _ (heap_alloc_new w _) [X0, X1, X2, X3, X4, X5, X6, X7, X8, X9, X10, X11, X12, X13, X14] (fun j => [#[.slice A0 X0.length c0, .slice A1 X1.length c1, .slice A2 X2.length c2, .slice A3 X3.length c3, .slice A4 X4.length c4, .slice A5 X5.length c5, .slice A6 X6.length c6, .slice A7 X7.length c7, .slice A8 X8.length c8, .slice A9 X9.length c9, .slice A10 X10.length c10, .slice A11 X11.length c11, .slice A12 X12.length c12, .slice A13 X13.length c13, .slice A14 X14.length c14].getD j undef]) (by simp) ?_⟩
  intro j x hx
  match j, hx with
  | 0, hx =>
    obtain rfl : X0 = x := by simpa using hx
    exact ⟨rfl, ⟨A0, c0, rfl, l0, Kd.C_below g0 (hb _)⟩, fun i v hv => by
      match i, hv with
      | 0, hv => exact hv⟩
  | 1, hx =>
    obtain rfl : X1 = x := by simpa using hx
    exact ⟨rfl, ⟨A1, c1, rfl, l1, Kd.C_below g1 (hb _)⟩, fun i v hv => by
      match i, hv with
      | 0, hv => exact hv⟩
  | 2, hx =>
    obtain rfl : X2 = x := by simpa using hx
    exact ⟨rfl, ⟨A2, c2, rfl, l2, Kd.C_below g2 (hb _)⟩, fun i v hv => by
      match i, hv with
      | 0, hv => exact hv⟩
  | 3, hx =>
    obtain rfl : X3 = x := by simpa using hx
    exact ⟨rfl, ⟨A3, c3, rfl, l3, Kd.C_below g3 (hb _)⟩, fun i v hv => by
      match i, hv with
      | 0, hv => exact hv⟩
  | 4, hx =>
    obtain rfl : X4 = x := by simpa using hx
    exact ⟨rfl, ⟨A4, c4, rfl, l4, Kd.C_below g4 (hb _)⟩, fun i v hv => by
      match i, hv with
      | 0, hv => exact hv⟩
  | 5, hx =>
    obtain rfl : X5 = x := by simpa using hx
    exact ⟨rfl, ⟨A5, c5, rfl, l5, Kd.C_below g5 (hb _)⟩, fun i v hv => by
      match i, hv with
      | 0, hv => exact hv⟩
  | 6, hx =>
    obtain rfl : X6 = x := by simpa using hx
    exact ⟨rfl, ⟨A6, c6, rfl, l6, Kd.C_below g6 (hb _)⟩, fun i v hv => by
      match i, hv with
      | 0, hv => exact hv⟩
  | 7, hx =>
    obtain rfl : X7 = x := by simpa using hx
    exact ⟨rfl, ⟨A7, c7, rfl, l7, Kd.C_below g7 (hb _)⟩, fun i v hv => by
      match i, hv with
      | 0, hv => exact hv⟩
  | 8, hx =>
    obtain rfl : X8 = x := by simpa using hx
    exact ⟨rfl, ⟨A8, c8, rfl, l8, Kd.C_below g8 (hb _)⟩, fun i v hv => by
      match i, hv with
      | 0, hv => exact hv⟩
  | 9, hx =>
    obtain rfl : X9 = x := by simpa using hx
    exact ⟨rfl, ⟨A9, c9, rfl, l9, Kd.C_below g9 (hb _)⟩, fun i v hv => by
      match i, hv with
      | 0, hv => exact hv⟩
  | 10, hx =>
    obtain rfl : X10 = x := by simpa using hx
    exact ⟨rfl, ⟨A10, c10, rfl, l10, Kd.C_below g10 (hb _)⟩, fun i v hv => by
      match i, hv with
      | 0, hv => exact hv⟩
  | 11, hx =>
    obtain rfl : X11 = x := by simpa using hx
    exact ⟨rfl, ⟨A11, c11, rfl, l11, Kd.C_below g11 (hb _)⟩, fun i v hv => by
      match i, hv with
      | 0, hv => exact hv⟩
  | 12, hx =>
    obtain rfl : X12 = x := by simpa using hx
    exact ⟨rfl, ⟨A12, c12, rfl, l12, Kd.C_below g12 (hb _)⟩, fun i v hv => by
      match i, hv with
      | 0, hv => exact hv⟩
  | 13, hx =>
    obtain rfl : X13 = x := by simpa using hx
    exact ⟨rfl, ⟨A13, c13, rfl, l13, Kd.C_below g13 (hb _)⟩, fun i v hv => by
      match i, hv with
      | 0, hv => exact hv⟩
  | 14, hx =>
    obtain rfl : X14 = x := by simpa using hx
    exact ⟨rfl, ⟨A14, c14, rfl, l14, Kd.C_below g14 (hb _)⟩, fun i v hv => by
      match i, hv with
      | 0, hv => exact hv⟩
  | n + 15, hx => simp at hx
def L9 (N : List Int) (T : List ByteArray) (B : List Int) (M : List Fl) : List (List Fl) := [[(⟨1, 1, 0, ⟨#[]⟩, [], []⟩ : Fl)], [(⟨1, 2, 0, ⟨#[]⟩, [], []⟩ : Fl)], [(⟨2, 1, 1, ⟨#[]⟩, [], []⟩ : Fl), (⟨2, 1, 1, ⟨#[]⟩, [], []⟩ : Fl)], [(⟨2, 1, 1, ⟨#[]⟩, [], []⟩ : Fl), (⟨1, 1, 1, ⟨#[]⟩, [], []⟩ : Fl)], [(⟨1, 1, 5, ⟨#[97]⟩, [], []⟩ : Fl)], [(⟨1, 2, 5, ⟨#[97]⟩, [], []⟩ : Fl)], [(⟨1, 3, 0, ⟨#[]⟩, N, []⟩ : Fl)], [(⟨1, 4, 0, ⟨#[]⟩, [], T⟩ : Fl)], [(⟨1, 4, 0, ⟨#[]⟩, [], []⟩ : Fl)], [(⟨1, 3, 0, ⟨#[]⟩, [1], [⟨#[]⟩]⟩ : Fl)], [(⟨1, 0, 0, ⟨#[]⟩, [], []⟩ : Fl)], [(⟨1, 5, 1, ⟨#[]⟩, [], []⟩ : Fl)], [(⟨1, 2, 0, strOfNums B, [], []⟩ : Fl)], [(⟨1, 4, 0, ⟨#[]⟩, [], [strOfNums B]⟩ : Fl)], M]
def S9 (N : List Int) (T : List ByteArray) (B : List Int) (M : List Fl) : List Pr := [.ag (⟨1, 1, 0, ⟨#[]⟩, [], []⟩ : Fl), .fs [(⟨1, 1, 0, ⟨#[]⟩, [], []⟩ : Fl)], .ag (⟨1, 2, 0, ⟨#[]⟩, [], []⟩ : Fl), .fs [(⟨1, 2, 0, ⟨#[]⟩, [], []⟩ : Fl)], .ag (⟨2, 1, 1, ⟨#[]⟩, [], []⟩ : Fl), .ag (⟨2, 1, 1, ⟨#[]⟩, [], []⟩ : Fl), .fs [(⟨2, 1, 1, ⟨#[]⟩, [], []⟩ : Fl), (⟨2, 1, 1, ⟨#[]⟩, [], []⟩ : Fl)], .ag (⟨2, 1, 1, ⟨#[]⟩, [], []⟩ : Fl), .ag (⟨1, 1, 1, ⟨#[]⟩, [], []⟩ : Fl), .fs [(⟨2, 1, 1, ⟨#[]⟩, [], []⟩ : Fl), (⟨1, 1, 1, ⟨#[]⟩, [], []⟩ : Fl)], .ag (⟨1, 1, 5, ⟨#[97]⟩, [], []⟩ : Fl), .fs [(⟨1, 1, 5, ⟨#[97]⟩, [], []⟩ : Fl)], .ag (⟨1, 2, 5, ⟨#[97]⟩, [], []⟩ : Fl), .fs [(⟨1, 2, 5, ⟨#[97]⟩, [], []⟩ : Fl)], .ns N, .ag (⟨1, 3, 0, ⟨#[]⟩, N, []⟩ : Fl), .fs [(⟨1, 3, 0, ⟨#[]⟩, N, []⟩ : Fl)], .ts T, .ag (⟨1, 4, 0, ⟨#[]⟩, [], T⟩ : Fl), .fs [(⟨1, 4, 0, ⟨#[]⟩, [], T⟩ : Fl)], .ag (⟨1, 4, 0, ⟨#[]⟩, [], []⟩ : Fl), .fs [(⟨1, 4, 0, ⟨#[]⟩, [], []⟩ : Fl)], .ns [1], .ts [⟨#[]⟩], .ag (⟨1, 3, 0, ⟨#[]⟩, [1], [⟨#[]⟩]⟩ : Fl), .fs [(⟨1, 3, 0, ⟨#[]⟩, [1], [⟨#[]⟩]⟩ : Fl)], .ag (⟨1, 0, 0, ⟨#[]⟩, [], []⟩ : Fl), .fs [(⟨1, 0, 0, ⟨#[]⟩, [], []⟩ : Fl)], .ag (⟨1, 5, 1, ⟨#[]⟩, [], []⟩ : Fl), .fs [(⟨1, 5, 1, ⟨#[]⟩, [], []⟩ : Fl)], .bs B, .va (.string (strOfNums B)), .ag (⟨1, 2, 0, strOfNums B, [], []⟩ : Fl), .fs [(⟨1, 2, 0, strOfNums B, [], []⟩ : Fl)], .bs B, .va (.string (strOfNums B)), .ts [strOfNums B], .ag (⟨1, 4, 0, ⟨#[]⟩, [], [strOfNums B]⟩ : Fl), .fs [(⟨1, 4, 0, ⟨#[]⟩, [], [strOfNums B]⟩ : Fl)], .fs M, .ll (L9 N T B M), .va (.int .i64 15), .va (.int .i64 0)]
def D9 : List Tmp := [61, 62, 63, 64, 65, 66, 67, 68, 69, 70, 71, 72, 73, 74, 75, 76, 77, 78, 79, 80, 81, 82, 83, 84, 85, 86, 87, 88, 89, 90, 91, 92, 93, 94, 95, 96, 97, 98, 99, 100, 101, 102, 103]
theorem needs_at {F : Nat → Value → World → Prop} {D : List Tmp} {a : Act} {w : World} {ops : Array Oper} {i : Nat} (hd : ∀ j t, D[j]? = some t → j ∈ needsAt ops i → F j (a.eval (.tmp t)) w) (j t : Nat) (h : D[j]? = some t) (h2 : (needsAt ops i).contains j = true) : F j (a.eval (.tmp t)) w := hd j t h (needs_mem h2)
set_option maxHeartbeats 8000000 in
set_option maxRecDepth 100000 in
theorem steps9 {Q : Exit → Act → World → Prop} {a0 : Act} {w0 : World} (N : List Int) (T : List ByteArray) (B : List Int) (M : List Fl) (hN : N = List.replicate 257 (0 : Int)) (hT : T = List.replicate 257 (⟨#[]⟩ : ByteArray)) (hB : B = List.replicate 65536 (0 : Int)) (h6 : (Pr.fs M).holds (a0.eval (.tmp 6)) w0) : ∀ i, i < 43 → StepAt Try.prog (opsOf Try.f3 9) Q (Fam (S9 N T B M)) D9 a0 w0 i
  | 0, _ => arm_ rfl (fun a w hb hd hold => b2 (x := (⟨1, 1, 0, ⟨#[]⟩, [], []⟩ : Fl)) rfl )
  | 1, _ => arm_ rfl (fun a w hb hd hold => fs1 rfl (needs_at hd 0 61 rfl (by kernel_rfl)))
  | 2, _ => arm_ rfl (fun a w hb hd hold => b2 (x := (⟨1, 2, 0, ⟨#[]⟩, [], []⟩ : Fl)) rfl )
  | 3, _ => arm_ rfl (fun a w hb hd hold => fs1 rfl (needs_at hd 2 63 rfl (by kernel_rfl)))
  | 4, _ => arm_ rfl (fun a w hb hd hold => b3 (x := (⟨2, 1, 1, ⟨#[]⟩, [], []⟩ : Fl)) rfl )
  | 5, _ => arm_ rfl (fun a w hb hd hold => b3 (x := (⟨2, 1, 1, ⟨#[]⟩, [], []⟩ : Fl)) rfl )
  | 6, _ => arm_ rfl (fun a w hb hd hold => fs2 rfl (needs_at hd 4 65 rfl (by kernel_rfl)) (needs_at hd 5 66 rfl (by kernel_rfl)))
  | 7, _ => arm_ rfl (fun a w hb hd hold => b3 (x := (⟨2, 1, 1, ⟨#[]⟩, [], []⟩ : Fl)) rfl )
  | 8, _ => arm_ rfl (fun a w hb hd hold => b3 (x := (⟨1, 1, 1, ⟨#[]⟩, [], []⟩ : Fl)) rfl )
  | 9, _ => arm_ rfl (fun a w hb hd hold => fs2 rfl (needs_at hd 7 68 rfl (by kernel_rfl)) (needs_at hd 8 69 rfl (by kernel_rfl)))
  | 10, _ => arm_ rfl (fun a w hb hd hold => b4 (x := (⟨1, 1, 5, ⟨#[97]⟩, [], []⟩ : Fl)) rfl )
  | 11, _ => arm_ rfl (fun a w hb hd hold => fs1 rfl (needs_at hd 10 71 rfl (by kernel_rfl)))
  | 12, _ => arm_ rfl (fun a w hb hd hold => b4 (x := (⟨1, 2, 5, ⟨#[97]⟩, [], []⟩ : Fl)) rfl )
  | 13, _ => arm_ rfl (fun a w hb hd hold => fs1 rfl (needs_at hd 12 73 rfl (by kernel_rfl)))
  | 14, _ => arm_wp rfl (fun a w hb hd hold K hK => mk_arm (Kd.int .i64) 27 2 257 rfl rfl rfl Try.underlying27 (.int .i64 0) 8 (by kernel_rfl) rfl (by decide) (by decide) (0 : Int) rfl (by decide) K (fun v w' hB' h => hK v w' hB' (by
      obtain ⟨A, c, h1, h2, h3⟩ := h
      exact ⟨A, c, by rw [h1, hN, List.length_replicate], by rw [hN, List.length_replicate]; exact h2, by rw [hN, List.length_replicate]; exact h3⟩)))
  | 15, _ => arm_ rfl (fun a w hb hd hold => bN (x := (⟨1, 3, 0, ⟨#[]⟩, N, []⟩ : Fl)) rfl (needs_at hd 14 75 rfl (by kernel_rfl)))
  | 16, _ => arm_ rfl (fun a w hb hd hold => fs1 rfl (needs_at hd 15 76 rfl (by kernel_rfl)))
  | 17, _ => arm_wp rfl (fun a w hb hd hold K hK => mk_arm Kd.string 28 9 257 rfl rfl rfl Try.underlying28 (.string ⟨#[]⟩) 16 (by kernel_rfl) rfl (by decide) (by decide) (⟨#[]⟩ : ByteArray) rfl (by decide) K (fun v w' hB' h => hK v w' hB' (by
      obtain ⟨A, c, h1, h2, h3⟩ := h
      exact ⟨A, c, by rw [h1, hT, List.length_replicate], by rw [hT, List.length_replicate]; exact h2, by rw [hT, List.length_replicate]; exact h3⟩)))
  | 18, _ => arm_ rfl (fun a w hb hd hold => bT (x := (⟨1, 4, 0, ⟨#[]⟩, [], T⟩ : Fl)) rfl (needs_at hd 17 78 rfl (by kernel_rfl)))
  | 19, _ => arm_ rfl (fun a w hb hd hold => fs1 rfl (needs_at hd 18 79 rfl (by kernel_rfl)))
  | 20, _ => arm_ rfl (fun a w hb hd hold => b2 (x := (⟨1, 4, 0, ⟨#[]⟩, [], []⟩ : Fl)) rfl )
  | 21, _ => arm_ rfl (fun a w hb hd hold => fs1 rfl (needs_at hd 20 81 rfl (by kernel_rfl)))
  | 22, _ => arm_ rfl (fun a w hb hd hold => ns1 rfl)
  | 23, _ => arm_ rfl (fun a w hb hd hold => ts1 rfl rfl)
  | 24, _ => arm_ rfl (fun a w hb hd hold => bNT (x := (⟨1, 3, 0, ⟨#[]⟩, [1], [⟨#[]⟩]⟩ : Fl)) rfl (needs_at hd 22 83 rfl (by kernel_rfl)) (needs_at hd 23 84 rfl (by kernel_rfl)))
  | 25, _ => arm_ rfl (fun a w hb hd hold => fs1 rfl (needs_at hd 24 85 rfl (by kernel_rfl)))
  | 26, _ => arm_ rfl (fun a w hb hd hold => b2 (x := (⟨1, 0, 0, ⟨#[]⟩, [], []⟩ : Fl)) rfl )
  | 27, _ => arm_ rfl (fun a w hb hd hold => fs1 rfl (needs_at hd 26 87 rfl (by kernel_rfl)))
  | 28, _ => arm_ rfl (fun a w hb hd hold => b3 (x := (⟨1, 5, 1, ⟨#[]⟩, [], []⟩ : Fl)) rfl )
  | 29, _ => arm_ rfl (fun a w hb hd hold => fs1 rfl (needs_at hd 28 89 rfl (by kernel_rfl)))
  | 30, _ => arm_wp rfl (fun a w hb hd hold K hK => mk_arm (Kd.int .u8) 22 5 65536 rfl rfl rfl Try.underlying22 (.int .u8 0) 1 (by kernel_rfl) rfl (by decide) (by decide) (0 : Int) rfl (by decide) K (fun v w' hB' h => hK v w' hB' (by
      obtain ⟨A, c, h1, h2, h3⟩ := h
      exact ⟨A, c, by rw [h1, hB, List.length_replicate], by rw [hB, List.length_replicate]; exact h2, by rw [hB, List.length_replicate]; exact h3⟩)))
  | 31, _ => arm_ rfl (fun a w hb hd hold => cv rfl (needs_at hd 30 91 rfl (by kernel_rfl)))
  | 32, _ => arm_ rfl (fun a w hb hd hold => bS (x := (⟨1, 2, 0, strOfNums B, [], []⟩ : Fl)) rfl (needs_at hd 31 92 rfl (by kernel_rfl)))
  | 33, _ => arm_ rfl (fun a w hb hd hold => fs1 rfl (needs_at hd 32 93 rfl (by kernel_rfl)))
  | 34, _ => arm_wp rfl (fun a w hb hd hold K hK => mk_arm (Kd.int .u8) 22 5 65536 rfl rfl rfl Try.underlying22 (.int .u8 0) 1 (by kernel_rfl) rfl (by decide) (by decide) (0 : Int) rfl (by decide) K (fun v w' hB' h => hK v w' hB' (by
      obtain ⟨A, c, h1, h2, h3⟩ := h
      exact ⟨A, c, by rw [h1, hB, List.length_replicate], by rw [hB, List.length_replicate]; exact h2, by rw [hB, List.length_replicate]; exact h3⟩)))
  | 35, _ => arm_ rfl (fun a w hb hd hold => cv rfl (needs_at hd 34 95 rfl (by kernel_rfl)))
  | 36, _ => arm_ rfl (fun a w hb hd hold => ts1 rfl (needs_at hd 35 96 rfl (by kernel_rfl)))
  | 37, _ => arm_ rfl (fun a w hb hd hold => bT (x := (⟨1, 4, 0, ⟨#[]⟩, [], [strOfNums B]⟩ : Fl)) rfl (needs_at hd 36 97 rfl (by kernel_rfl)))
  | 38, _ => arm_ rfl (fun a w hb hd hold => fs1 rfl (needs_at hd 37 98 rfl (by kernel_rfl)))
  | 39, _ => arm_ rfl (fun a w hb hd hold => ⟨a.eval (.tmp 6), w, by unfold execOp; rfl, Below.refl _ _, by rw [hold 6 (by decide)]; exact Pr.mono (.fs M) _ _ _ h6 hb⟩)
  | 40, _ => arm_ rfl (fun a w hb hd hold => by
      obtain ⟨A0, c0, v0, l0, g0⟩ := needs_at hd 1 62 rfl (by kernel_rfl)
      obtain ⟨A1, c1, v1, l1, g1⟩ := needs_at hd 3 64 rfl (by kernel_rfl)
      obtain ⟨A2, c2, v2, l2, g2⟩ := needs_at hd 6 67 rfl (by kernel_rfl)
      obtain ⟨A3, c3, v3, l3, g3⟩ := needs_at hd 9 70 rfl (by kernel_rfl)
      obtain ⟨A4, c4, v4, l4, g4⟩ := needs_at hd 11 72 rfl (by kernel_rfl)
      obtain ⟨A5, c5, v5, l5, g5⟩ := needs_at hd 13 74 rfl (by kernel_rfl)
      obtain ⟨A6, c6, v6, l6, g6⟩ := needs_at hd 16 77 rfl (by kernel_rfl)
      obtain ⟨A7, c7, v7, l7, g7⟩ := needs_at hd 19 80 rfl (by kernel_rfl)
      obtain ⟨A8, c8, v8, l8, g8⟩ := needs_at hd 21 82 rfl (by kernel_rfl)
      obtain ⟨A9, c9, v9, l9, g9⟩ := needs_at hd 25 86 rfl (by kernel_rfl)
      obtain ⟨A10, c10, v10, l10, g10⟩ := needs_at hd 27 88 rfl (by kernel_rfl)
      obtain ⟨A11, c11, v11, l11, g11⟩ := needs_at hd 29 90 rfl (by kernel_rfl)
      obtain ⟨A12, c12, v12, l12, g12⟩ := needs_at hd 33 94 rfl (by kernel_rfl)
      obtain ⟨A13, c13, v13, l13, g13⟩ := needs_at hd 38 99 rfl (by kernel_rfl)
      obtain ⟨A14, c14, v14, l14, g14⟩ := needs_at hd 39 100 rfl (by kernel_rfl)
      exact LL15 rfl v0 l0 g0 v1 l1 g1 v2 l2 g2 v3 l3 g3 v4 l4 g4 v5 l5 g5 v6 l6 g6 v7 l7 g7 v8 l8 g8 v9 l9 g9 v10 l10 g10 v11 l11 g11 v12 l12 g12 v13 l13 g13 v14 l14 g14)
  | 41, _ => arm_ rfl (fun a w hb hd hold => by
      obtain ⟨A, c, hv, _, _⟩ := needs_at hd 40 101 rfl (by kernel_rfl)
      exact ⟨.int .i64 15, w, len_ex rfl rfl hv, Below.refl _ _, rfl⟩)
  | 42, _ => arm_ rfl (fun a w hb hd hold => ⟨.int .i64 0, w, by unfold execOp; rfl, Below.refl _ _, rfl⟩)
  | n + 43, h => absurd h (by omega)
end Go.Proofs.Ytnhkbjihgepapaa.Fd
/- FieldNumbers, in plain Lean: the lists that are not right, the longest ones, bytes that are cut. -/
set_option linter.unusedVariables false
set_option linter.unusedSimpArgs false
namespace Go.Proofs.Ytnhkbjihgepapaa.Fd
open Go.RowKit Go.Proofs.YtnhkbjihgepapaaW.PrintWords Go.Proofs.YtnhkbjihgepapaaW.PrintLast Go.Proofs.YtnhkbjihgepapaaW.PrintMore Go.Proofs.Ytnhkbjihgepapaa.PF
theorem right_no {x : Fl} {l : List Fl} (hm : x ∈ l) (h : rightX x = false) : rightL l = false := by
  cases hr : rightL l with
  | false => rfl
  | true =>
    have := (rightL_mem hr).1 x hm
    rw [h] at this
    cases this
theorem bad_many {l : List Fl} (h : 64 < l.length) : rightL l = false := by
  cases hr : rightL l with
  | false => rfl
  | true => have := (rightL_mem hr).2; omega
theorem bad_ns {t : Int} {N : List Int} (h : 256 < N.length) : rightX ⟨t, 3, 0, ⟨#[]⟩, N, []⟩ = false := by
  unfold rightX rightF
  dsimp only
  rw [if_neg (by decide), if_neg (by decide), if_pos rfl, show decide ((N.length : Int) ≤ 256) = false from decide_eq_false (by omega), Bool.and_false]
theorem bad_ts {t : Int} {T : List ByteArray} (h : 256 < T.length) : rightX ⟨t, 4, 0, ⟨#[]⟩, [], T⟩ = false := by
  unfold rightX rightF
  dsimp only
  rw [if_neg (by decide), if_neg (by decide), if_neg (by decide), if_pos rfl, show decide ((T.length : Int) ≤ 256) = false from decide_eq_false (by omega), Bool.and_false, Bool.false_and]
theorem bad_tx {t : Int} {s : ByteArray} (h : 65535 < s.size) : rightX ⟨t, 2, 0, s, [], []⟩ = false := by
  unfold rightX rightF
  dsimp only
  rw [if_neg (by decide), if_pos rfl, show decide ((s.size : Int) ≤ 65535) = false from decide_eq_false (by omega), Bool.and_false]
theorem bad_tt {t : Int} {s : ByteArray} (h : 65535 < s.size) : rightX ⟨t, 4, 0, ⟨#[]⟩, [], [s]⟩ = false := by
  unfold rightX rightF
  dsimp only
  rw [if_neg (by decide), if_neg (by decide), if_neg (by decide), if_pos rfl, show [s].any longS = true from by rw [List.any_cons, show longS s = true from decide_eq_true h]; rfl, Bool.not_true, Bool.and_false]
/-- None of the fifteen lists is right. -/
theorem bad15 (N : List Int) (T : List ByteArray) (B : List Int) (M : List Fl) (hN : N.length = 257) (hT : T.length = 257) (hB : B.length = 65536) (hM : M.length = 65) : ∀ l ∈ L9 N T B M, rightL l = false ∧ l.length ≤ 65 := by
  intro l hl
  unfold L9 at hl
  have hs : 65535 < (strOfNums B).size := by rw [strOfNums_size, hB]; decide
  simp only [List.mem_cons, List.not_mem_nil, or_false] at hl
  rcases hl with rfl | rfl | rfl | rfl | rfl | rfl | rfl | rfl | rfl | rfl | rfl | rfl | rfl | rfl | rfl
  · exact ⟨by decide +kernel, by decide⟩
  · exact ⟨by decide +kernel, by decide⟩
  · exact ⟨by decide +kernel, by decide⟩
  · exact ⟨by decide +kernel, by decide⟩
  · exact ⟨by decide +kernel, by decide⟩
  · exact ⟨by decide +kernel, by decide⟩
  · exact ⟨right_no (List.mem_singleton_self _) (bad_ns (by omega)), by simp⟩
  · exact ⟨right_no (List.mem_singleton_self _) (bad_ts (by omega)), by simp⟩
  · exact ⟨by decide +kernel, by decide⟩
  · exact ⟨by decide +kernel, by decide⟩
  · exact ⟨by decide +kernel, by decide⟩
  · exact ⟨by decide +kernel, by decide⟩
  · exact ⟨right_no (List.mem_singleton_self _) (bad_tx hs), by simp⟩
  · exact ⟨right_no (List.mem_singleton_self _) (bad_tt hs), by simp⟩
  · exact ⟨bad_many (by omega), by omega⟩
theorem put_bad {l : List Fl} (h : rightL l = false) : putR l = ([], 2) := by unfold putR; rw [h, if_neg (by decide)]
/-- A text of the longest body, and one more. -/
theorem put_long {s : ByteArray} (h0 : 0 < s.size) (h : s.size ≤ 65535) : rightL [⟨1, 2, 0, s, [], []⟩] = true ∧ (putL [⟨1, 2, 0, s, [], []⟩]).length = s.size + 5 := by
  have hx : rightX ⟨1, 2, 0, s, [], []⟩ = true := by
    unfold rightX rightF
    dsimp only
    have he : s.toList.isEmpty = false := by
      cases hs : s.toList.isEmpty with
      | false => rfl
      | true =>
        have := (empty_iff s).1 hs
        subst this
        exact absurd h0 (by decide)
    rw [if_neg (by decide), if_pos rfl, he, show decide ((s.size : Int) ≤ 65535) = true from decide_eq_true (by omega)]
    rfl
  constructor
  · unfold rightL okL okL stepL
    simp only [List.getElem?_cons_zero, List.length_singleton]
    rw [hx]
    rfl
  · rw [putL_len]
    simp only [List.flatMap_cons, List.flatMap_nil, List.append_nil]
    unfold putX tailX
    dsimp only
    rw [if_neg (by decide), if_pos rfl]
    unfold encT
    rw [List.length_append, List.length_append, Oct.be_length, bytesOf_length]
    simp
    omega
theorem puts_fixed : putR [] = ([0], 0) ∧ putR [⟨3, 3, 0, ⟨#[]⟩, [-1], []⟩] = ([1, 3, 3, 0, 1, 255, 255, 255, 255, 255, 255, 255, 255], 0) := by decide +kernel
theorem put_256 : (putR [⟨1, 3, 0, ⟨#[]⟩, List.replicate 256 0, []⟩, ⟨2, 4, 0, ⟨#[]⟩, [], List.replicate 256 ⟨#[]⟩⟩]).2 = 0 := by decide +kernel
def many (n : Nat) : List Fl := (List.range n).map fun (i : Nat) => ⟨(i : Int), 1, 1, ⟨#[]⟩, [], []⟩
theorem put_many : (putR (many 64)).2 = 0 := by decide +kernel
theorem many_len (n : Nat) : (many n).length = n := by unfold many; simp
theorem many_next (n : Nat) : many n ++ [⟨(n : Int), 1, 1, ⟨#[]⟩, [], []⟩] = many (n + 1) := by unfold many; rw [List.range_succ, List.map_append]; rfl
theorem many_take : (many 65).take 64 = many 64 := by unfold many; rw [← List.map_take]; rfl
def twoB : List Int := [2, 1, 1, 0, 0, 0, 0, 0, 0, 0, 5, 2, 2, 0, 2, 97, 98]
def B21 : List (List Int) := [[], [1], [0, 0], twoB.take 16, twoB ++ [0], [1, 1, 1, 0, 0, 0, 0, 0, 0, 0, 0], [1, 1, 3, 0, 0], [1, 1, 9]]
theorem cut8 : ∀ b ∈ B21, allF b = ([], 40) ∧ (b.length ≤ 18) ∧ b.all (fun x => decide (0 ≤ x ∧ x ≤ 255)) = true := by decide +kernel
end Go.Proofs.Ytnhkbjihgepapaa.Fd
/- FieldNumbers: bytes that are cut (region 21), the longest lists (region 16). (A part of the print PF.) -/
set_option linter.unusedVariables false
set_option linter.unusedSimpArgs false
namespace Go.Proofs.Ytnhkbjihgepapaa.Fd
open Go.RowKit Go.Proofs.YtnhkbjihgepapaaW.PrintWords Go.Proofs.YtnhkbjihgepapaaW.PrintLast Go.Proofs.YtnhkbjihgepapaaW.PrintMore Go.Proofs.YtnhkbjihgepapaaW.PrintAny Go.Proofs.Ytnhkbjihgepapaa.PF
theorem C_bytes {w : World} {g t : Nat} (l : List Int) (hl : l.length ≤ 1000) (h : w.heap[g]? = some (.cells (l.map (Value.int .u8)).toArray t (0, 0))) : Kd.C (Kd.int .u8) w (some ⟨g, 0, none⟩) l.length l := by
  refine C_lit _ h l (fun j => [.int .u8 (l.getD j 0)]) hl ?_
  intro j x hx
  have e : l.getD j 0 = x := by simp [List.getD, hx]
  refine ⟨rfl, by rw [e]; rfl, fun i v hv => ?_⟩
  rw [e] at hv
  match i, hv with
  | 0, hv =>
    obtain rfl : Value.int .u8 x = v := by simpa using hv
    show (l.map (Value.int .u8)).toArray[j * 1 + 0]? = _
    simp [hx]
set_option maxRecDepth 100000 in
theorem twoB_calls (w : World) : Calls Try.prog 12 #[] w fun e w' => ∃ v, e = .returned v ∧ Below w.heap.size w w' ∧ (Pr.bx twoB).holds v w' := by
  have hC := C_bytes (w := w.alloc (.cells (twoB.map (Value.int .u8)).toArray 5)) twoB (by decide) (heap_alloc_new w _)
  have hb := below_alloc (Below.refl w.heap.size w) (.cells (twoB.map (Value.int .u8)).toArray 5)
  go_enter Try.func12, Try.ntmps12
  go_wp2
  go_ret
  exact ⟨_, rfl, hb, _, rfl, hC⟩
section
variable {a : Act} {w : World} {o : Oper}
theorem kbs0 (ho : o.op = .buildSlice 22 1 #[(0, .const (.int .u8 1))]) : ∃ v w', (execOp a.eval o).run Try.prog w = .ok (.value v) w' ∧ Below w.heap.size w w' ∧ (Pr.bs [1]).holds v w' := by
  have hr : (execOp a.eval o).run Try.prog w = .ok (.value (.slice (some ⟨w.heap.size, 0, none⟩) 1 1)) (w.alloc (.cells #[.int .u8 1] 5)) := by
    unfold execOp
    rw [ho]
    simp only [List.map_toArray, List.map_cons, List.map_nil, Act.eval]
    go_simp
  exact ⟨_, _, hr, below_alloc (Below.refl _ _) _, some ⟨w.heap.size, 0, none⟩, 1, rfl, Nat.le_refl _, C_bytes [1] (by decide) (heap_alloc_new w _)⟩
theorem kbs1 (ho : o.op = .buildSlice 22 2 #[(0, .const (.int .u8 0)), (1, .const (.int .u8 0))]) : ∃ v w', (execOp a.eval o).run Try.prog w = .ok (.value v) w' ∧ Below w.heap.size w w' ∧ (Pr.bs [0, 0]).holds v w' := by
  have hr : (execOp a.eval o).run Try.prog w = .ok (.value (.slice (some ⟨w.heap.size, 0, none⟩) 2 2)) (w.alloc (.cells #[.int .u8 0, .int .u8 0] 5)) := by
    unfold execOp
    rw [ho]
    simp only [List.map_toArray, List.map_cons, List.map_nil, Act.eval]
    go_simp
  exact ⟨_, _, hr, below_alloc (Below.refl _ _) _, some ⟨w.heap.size, 0, none⟩, 2, rfl, Nat.le_refl _, C_bytes [0, 0] (by decide) (heap_alloc_new w _)⟩
theorem kbs5 (ho : o.op = .buildSlice 22 1 #[(0, .const (.int .u8 0))]) : ∃ v w', (execOp a.eval o).run Try.prog w = .ok (.value v) w' ∧ Below w.heap.size w w' ∧ (Pr.bs [0]).holds v w' := by
  have hr : (execOp a.eval o).run Try.prog w = .ok (.value (.slice (some ⟨w.heap.size, 0, none⟩) 1 1)) (w.alloc (.cells #[.int .u8 0] 5)) := by
    unfold execOp
    rw [ho]
    simp only [List.map_toArray, List.map_cons, List.map_nil, Act.eval]
    go_simp
  exact ⟨_, _, hr, below_alloc (Below.refl _ _) _, some ⟨w.heap.size, 0, none⟩, 1, rfl, Nat.le_refl _, C_bytes [0] (by decide) (heap_alloc_new w _)⟩
theorem kbs7 (ho : o.op = .buildSlice 22 11 #[(0, .const (.int .u8 1)), (1, .const (.int .u8 1)), (2, .const (.int .u8 1)), (3, .const (.int .u8 0)), (4, .const (.int .u8 0)), (5, .const (.int .u8 0)), (6, .const (.int .u8 0)), (7, .const (.int .u8 0)), (8, .const (.int .u8 0)), (9, .const (.int .u8 0)), (10, .const (.int .u8 0))]) : ∃ v w', (execOp a.eval o).run Try.prog w = .ok (.value v) w' ∧ Below w.heap.size w w' ∧ (Pr.bs [1, 1, 1, 0, 0, 0, 0, 0, 0, 0, 0]).holds v w' := by
  have hr : (execOp a.eval o).run Try.prog w = .ok (.value (.slice (some ⟨w.heap.size, 0, none⟩) 11 11)) (w.alloc (.cells #[.int .u8 1, .int .u8 1, .int .u8 1, .int .u8 0, .int .u8 0, .int .u8 0, .int .u8 0, .int .u8 0, .int .u8 0, .int .u8 0, .int .u8 0] 5)) := by
    unfold execOp
    rw [ho]
    simp only [List.map_toArray, List.map_cons, List.map_nil, Act.eval]
    go_simp
  exact ⟨_, _, hr, below_alloc (Below.refl _ _) _, some ⟨w.heap.size, 0, none⟩, 11, rfl, Nat.le_refl _, C_bytes [1, 1, 1, 0, 0, 0, 0, 0, 0, 0, 0] (by decide) (heap_alloc_new w _)⟩
theorem kbs8 (ho : o.op = .buildSlice 22 5 #[(0, .const (.int .u8 1)), (1, .const (.int .u8 1)), (2, .const (.int .u8 3)), (3, .const (.int .u8 0)), (4, .const (.int .u8 0))]) : ∃ v w', (execOp a.eval o).run Try.prog w = .ok (.value v) w' ∧ Below w.heap.size w w' ∧ (Pr.bs [1, 1, 3, 0, 0]).holds v w' := by
  have hr : (execOp a.eval o).run Try.prog w = .ok (.value (.slice (some ⟨w.heap.size, 0, none⟩) 5 5)) (w.alloc (.cells #[.int .u8 1, .int .u8 1, .int .u8 3, .int .u8 0, .int .u8 0] 5)) := by
    unfold execOp
    rw [ho]
    simp only [List.map_toArray, List.map_cons, List.map_nil, Act.eval]
    go_simp
  exact ⟨_, _, hr, below_alloc (Below.refl _ _) _, some ⟨w.heap.size, 0, none⟩, 5, rfl, Nat.le_refl _, C_bytes [1, 1, 3, 0, 0] (by decide) (heap_alloc_new w _)⟩
theorem kbs9 (ho : o.op = .buildSlice 22 3 #[(0, .const (.int .u8 1)), (1, .const (.int .u8 1)), (2, .const (.int .u8 9))]) : ∃ v w', (execOp a.eval o).run Try.prog w = .ok (.value v) w' ∧ Below w.heap.size w w' ∧ (Pr.bs [1, 1, 9]).holds v w' := by
  have hr : (execOp a.eval o).run Try.prog w = .ok (.value (.slice (some ⟨w.heap.size, 0, none⟩) 3 3)) (w.alloc (.cells #[.int .u8 1, .int .u8 1, .int .u8 9] 5)) := by
    unfold execOp
    rw [ho]
    simp only [List.map_toArray, List.map_cons, List.map_nil, Act.eval]
    go_simp
  exact ⟨_, _, hr, below_alloc (Below.refl _ _) _, some ⟨w.heap.size, 0, none⟩, 3, rfl, Nat.le_refl _, C_bytes [1, 1, 9] (by decide) (heap_alloc_new w _)⟩
theorem sl16 {y : Operand} (ho : o.op = .slice 22 y none (some (.const (.int .i64 16))) none) (hy : (Pr.bx twoB).holds (a.eval y) w) : ∃ v w', (execOp a.eval o).run Try.prog w = .ok (.value v) w' ∧ Below w.heap.size w w' ∧ (Pr.bs (twoB.take 16)).holds v w' := by
  obtain ⟨ad, hv, hC⟩ := hy
  replace hv : a.eval y = .slice (some ad) 17 17 := hv
  have hr : (execOp a.eval o).run Try.prog w = .ok (.value (.slice (some ad) 16 17)) w := by
    obtain ⟨ρ, hρ⟩ : ∃ r, r = a.eval := ⟨_, rfl⟩
    have hk : ρ (.const (.int .i64 16)) = .int .i64 16 := by rw [hρ]; rfl
    rw [← hρ] at hv ⊢
    clear hρ
    unfold execOp
    rw [ho]
    simp only [Option.map_some, Option.map_none, hv, hk]
    go_simp
  exact ⟨_, _, hr, Below.refl _ _, some ad, 17, rfl, by decide, Kd.C_take hC (by decide)⟩
theorem bytes_at {A : Option Addr} {l : List Int} (h : Kd.C (Kd.int .u8) w A l.length l) (h0 : 0 < l.length) : ∃ ad, A = some ad ∧ ∀ j v, (l.map (Value.int .u8))[j]? = some v → w.cell? (ad.add j) = some v := by
  obtain ⟨_, _, h3⟩ := h
  obtain ⟨ad, e, hc⟩ := h3 h0
  refine ⟨ad, e, fun j v hv => ?_⟩
  rw [List.getElem?_map, Option.map_eq_some_iff] at hv
  obtain ⟨x, hx, rfl⟩ := hv
  obtain ⟨c, _, hK, hcell⟩ := hc j x hx
  have := hcell 0 (.int .u8 x) (by rw [show c = [.int .u8 x] from hK]; rfl)
  rw [show (Kd.int .u8).sz = 1 from rfl, Nat.mul_one, Nat.add_zero] at this
  exact this
theorem ap18 {y z : Operand} (ho : o.op = .call { callee := .builtin .append, args := #[y, z], argTypes := #[22, 22] }) (hy : (Pr.bx twoB).holds (a.eval y) w) (hz : (Pr.bs [0]).holds (a.eval z) w) : ∃ v w', (execOp a.eval o).run Try.prog w = .ok (.value v) w' ∧ Below w.heap.size w w' ∧ (Pr.bs (twoB ++ [0])).holds v w' := by
  obtain ⟨ad, hv, hC⟩ := hy
  obtain ⟨A, c, hu, hl, hD⟩ := hz
  obtain ⟨_, e1, h1⟩ := bytes_at hC (by decide)
  cases e1
  obtain ⟨bd, rfl, h2⟩ := bytes_at hD (by decide)
  obtain ⟨i0, hi, hz0, hz1, hz2⟩ := info_parts Low.info8
  have hr := run_append_grow (P := Try.prog) (w := w) 22 o.type 5 i0 (.int .u8 0) Try.underlying22 hi hz0 ad 17 17 (twoB.map (Value.int .u8)) (by rw [hz1]; rfl) h1 bd 1 c [.int .u8 0] (by rw [hz1]; rfl) h2 (by decide) (by decide) (by rw [hz2]; decide)
  have hge := grownCap_ge w (17 + 1) 17 5
  have hb := fun O => below_alloc (below_drew (Below.refl w.heap.size w)) O
  have hx : (execOp a.eval o).run Try.prog w = .ok (.value (.slice (some ⟨w.heap.size, 0, none⟩) 18 (grownCap w (17 + 1) 17 5))) (w.drew.alloc (.cells ((twoB.map (Value.int .u8)).toArray ++ #[.int .u8 0] ++ Builtin.zeroCells #[.int .u8 0] (grownCap w (17 + 1) 17 5 - (17 + 1))) 5)) := by
    replace hv : a.eval y = .slice (some ad) 17 17 := hv
    replace hu : a.eval z = .slice (some bd) 1 c := hu
    simp [execOp, ho, resolve, invoke, builtin, hv, hu, hr, Result.andThen]
    rfl
  refine ⟨_, _, hx, hb _, some ⟨w.heap.size, 0, none⟩, grownCap w (17 + 1) 17 5, rfl, hge, ?_⟩
  · refine C_lit _ (heap_alloc_new w.drew _) (twoB ++ [0]) (fun j => [.int .u8 ((twoB ++ [0]).getD j 0)]) (by decide) ?_
    intro j x hx
    have e : (twoB ++ [0]).getD j 0 = x := by simp only [List.getD, hx]; rfl
    refine ⟨rfl, by rw [e]; rfl, fun i v hv => ?_⟩
    rw [e] at hv
    match i, hv with
    | 0, hv =>
      obtain rfl : Value.int .u8 x = v := by simpa using hv
      show ((twoB.map (Value.int .u8)).toArray ++ #[.int .u8 0] ++ Builtin.zeroCells #[.int .u8 0] _)[j * 1 + 0]? = _
      have hj : j < 18 := by have := (List.getElem?_eq_some_iff.1 hx).1; exact this
      rw [Array.getElem?_append_left (by simp; exact hj)]
      have h3 : ((twoB.map (Value.int .u8)).toArray ++ #[.int .u8 0]) = ((twoB ++ [0]).map (Value.int .u8)).toArray := by simp
      rw [h3]
      simp only [Nat.mul_one, Nat.add_zero, List.getElem?_toArray, List.getElem?_map, hx, Option.map_some]
end
set_option maxHeartbeats 8000000 in
set_option maxRecDepth 100000 in
theorem LB8 {a : Act} {w : World} {o : Oper} {y1 y2 y3 y4 y5 y6 y7 : Operand} (ho : o.op = .buildSlice 38 8 #[(0, .const (.slice none 0 0)), (1, y1), (2, y2), (3, y3), (4, y4), (5, y5), (6, y6), (7, y7)]) {X1 X2 X3 X4 X5 X6 X7 : List Int} (h1 : (Pr.bs X1).holds (a.eval y1) w) (h2 : (Pr.bs X2).holds (a.eval y2) w) (h3 : (Pr.bs X3).holds (a.eval y3) w) (h4 : (Pr.bs X4).holds (a.eval y4) w) (h5 : (Pr.bs X5).holds (a.eval y5) w) (h6 : (Pr.bs X6).holds (a.eval y6) w) (h7 : (Pr.bs X7).holds (a.eval y7) w) : ∃ v w', (execOp a.eval o).run Try.prog w = .ok (.value v) w' ∧ Below w.heap.size w w' ∧ (Pr.lb [[], X1, X2, X3, X4, X5, X6, X7]).holds v w' := by
  obtain ⟨A1, c1, v1, l1, g1⟩ := h1
  obtain ⟨A2, c2, v2, l2, g2⟩ := h2
  obtain ⟨A3, c3, v3, l3, g3⟩ := h3
  obtain ⟨A4, c4, v4, l4, g4⟩ := h4
  obtain ⟨A5, c5, v5, l5, g5⟩ := h5
  obtain ⟨A6, c6, v6, l6, g6⟩ := h6
  obtain ⟨A7, c7, v7, l7, g7⟩ := h7
  have hr : (execOp a.eval o).run Try.prog w = .ok (.value (.slice (some ⟨w.heap.size, 0, none⟩) 8 8)) (w.alloc (.cells #[.slice none 0 0, .slice A1 X1.length c1, .slice A2 X2.length c2, .slice A3 X3.length c3, .slice A4 X4.length c4, .slice A5 X5.length c5, .slice A6 X6.length c6, .slice A7 X7.length c7] 22)) := by
    obtain ⟨ρ, hρ⟩ : ∃ r, r = a.eval := ⟨_, rfl⟩
    have hk : ρ (.const (.slice none 0 0)) = .slice none 0 0 := by rw [hρ]; rfl
    rw [← hρ] at v1 v2 v3 v4 v5 v6 v7 ⊢
    clear hρ
    unfold execOp
    rw [ho]
    simp only [List.map_toArray, List.map_cons, List.map_nil, hk, v1, v2, v3, v4, v5, v6, v7]
    go_simp
  have hb := fun O => below_alloc (Below.refl w.heap.size w) O
  refine ⟨_, _, hr, hb _, some ⟨w.heap.size, 0, none⟩, 8, rfl, Nat.le_refl _, C_lit _ (heap_alloc_new w _) [[], X1, X2, X3, X4, X5, X6, X7] (fun j => [#[.slice none 0 0, .slice A1 X1.length c1, .slice A2 X2.length c2, .slice A3 X3.length c3, .slice A4 X4.length c4, .slice A5 X5.length c5, .slice A6 X6.length c6, .slice A7 X7.length c7].getD j undef]) (by simp) ?_⟩
  intro j x hx
  match j, hx with
  | 0, hx =>
    obtain rfl : [] = x := by simpa using hx
    exact ⟨rfl, ⟨none, 0, rfl, Nat.le_refl _, Kd.C_nil _ _⟩, fun i v hv => by
      match i, hv with
      | 0, hv => exact hv⟩
  | 1, hx =>
    obtain rfl : X1 = x := by simpa using hx
    exact ⟨rfl, ⟨A1, c1, rfl, l1, Kd.C_below g1 (hb _)⟩, fun i v hv => by
      match i, hv with
      | 0, hv => exact hv⟩
  | 2, hx =>
    obtain rfl : X2 = x := by simpa using hx
    exact ⟨rfl, ⟨A2, c2, rfl, l2, Kd.C_below g2 (hb _)⟩, fun i v hv => by
      match i, hv with
      | 0, hv => exact hv⟩
  | 3, hx =>
    obtain rfl : X3 = x := by simpa using hx
    exact ⟨rfl, ⟨A3, c3, rfl, l3, Kd.C_below g3 (hb _)⟩, fun i v hv => by
      match i, hv with
      | 0, hv => exact hv⟩
  | 4, hx =>
    obtain rfl : X4 = x := by simpa using hx
    exact ⟨rfl, ⟨A4, c4, rfl, l4, Kd.C_below g4 (hb _)⟩, fun i v hv => by
      match i, hv with
      | 0, hv => exact hv⟩
  | 5, hx =>
    obtain rfl : X5 = x := by simpa using hx
    exact ⟨rfl, ⟨A5, c5, rfl, l5, Kd.C_below g5 (hb _)⟩, fun i v hv => by
      match i, hv with
      | 0, hv => exact hv⟩
  | 6, hx =>
    obtain rfl : X6 = x := by simpa using hx
    exact ⟨rfl, ⟨A6, c6, rfl, l6, Kd.C_below g6 (hb _)⟩, fun i v hv => by
      match i, hv with
      | 0, hv => exact hv⟩
  | 7, hx =>
    obtain rfl : X7 = x := by simpa using hx
    exact ⟨rfl, ⟨A7, c7, rfl, l7, Kd.C_below g7 (hb _)⟩, fun i v hv => by
      match i, hv with
      | 0, hv => exact hv⟩
  | n + 8, hx => simp at hx
def S21 : List Pr := [.bs [1], .bs [0, 0], .bx twoB, .bs (twoB.take 16), .bx twoB, .bs [0], .bs (twoB ++ [0]), .bs [1, 1, 1, 0, 0, 0, 0, 0, 0, 0, 0], .bs [1, 1, 3, 0, 0], .bs [1, 1, 9], .lb B21, .va (.int .i64 8), .va (.int .i64 0)]
def D21 : List Tmp := [160, 161, 162, 163, 164, 165, 166, 167, 168, 169, 170, 171, 172]
theorem wp_call {P : Program} {Q : Exit → Act → World → Prop} {o : Oper} {a : Act} {w : World} {K : Act → World → Prop} {f : FuncId} {fn : Func} {xs : Array Operand} {ts : Array TypeId} (hf : P.funcs[f]? = some fn) (hname : (fn.name == "runtime.NumGoroutine") = false) (hb : fn.body.isSome = true) (args : Array Value)
    (hg : o.guard = none) (hop : o.op = .call { callee := .value (.func f), args := xs, argTypes := ts }) (hargs : xs.map a.eval = args) (h : Calls P f args w fun e w' => ∃ v, e = .returned v ∧ K (a.put o.dst v) w') : Oper.wp P o a w K Q := by
  have hw : Region.wanted o (yielded #[] a.tmps) = true := by unfold Region.wanted; rw [hg]
  have h1 := goes_ (ops := #[]) (Q := Q) (K := K) hf hname hb args hw rfl hop hargs h
  rw [if_pos hw] at h1
  exact h1
theorem len_b8 {a : Act} {w : World} {o : Oper} {y : Operand} {A : Option Addr} {n c : Nat} (ho : o.op = .call { callee := .builtin .len, args := #[y], argTypes := #[38] }) (hty : o.type = 3) (hv : a.eval y = .slice A n c) : (execOp a.eval o).run Try.prog w = .ok (.value (.int .i64 n)) w := by
  obtain ⟨ρ, hρ⟩ : ∃ r, r = a.eval := ⟨_, rfl⟩
  unfold execOp
  rw [ho]
  rw [← hρ] at hv ⊢
  clear hρ
  simp only [List.map_toArray, List.map_cons, List.map_nil, hty]
  simp [hv]
  go_simp
set_option maxHeartbeats 8000000 in
set_option maxRecDepth 100000 in
theorem steps21 {Q : Exit → Act → World → Prop} {a0 : Act} {w0 : World} : ∀ i, i < 13 → StepAt Try.prog (opsOf Try.f3 21) Q (Fam S21) D21 a0 w0 i
  | 0, _ => arm_ rfl (fun a w hb hd hold => kbs0 rfl)
  | 1, _ => arm_ rfl (fun a w hb hd hold => kbs1 rfl)
  | 2, _ => arm_wp rfl (fun a w hb hd hold K hK => wp_call (f := 12) Try.func12 (by kernel_rfl) rfl #[] rfl rfl (by simp) ((twoB_calls w).mono (by
      rintro e w' ⟨v, rfl, h1, h2⟩
      exact ⟨v, rfl, hK v w' h1 h2⟩)))
  | 3, _ => arm_ rfl (fun a w hb hd hold => sl16 rfl (needs_at hd 2 162 rfl (by kernel_rfl)))
  | 4, _ => arm_wp rfl (fun a w hb hd hold K hK => wp_call (f := 12) Try.func12 (by kernel_rfl) rfl #[] rfl rfl (by simp) ((twoB_calls w).mono (by
      rintro e w' ⟨v, rfl, h1, h2⟩
      exact ⟨v, rfl, hK v w' h1 h2⟩)))
  | 5, _ => arm_ rfl (fun a w hb hd hold => kbs5 rfl)
  | 6, _ => arm_ rfl (fun a w hb hd hold => ap18 rfl (needs_at hd 4 164 rfl (by kernel_rfl)) (needs_at hd 5 165 rfl (by kernel_rfl)))
  | 7, _ => arm_ rfl (fun a w hb hd hold => kbs7 rfl)
  | 8, _ => arm_ rfl (fun a w hb hd hold => kbs8 rfl)
  | 9, _ => arm_ rfl (fun a w hb hd hold => kbs9 rfl)
  | 10, _ => arm_ rfl (fun a w hb hd hold => LB8 rfl (needs_at hd 0 160 rfl (by kernel_rfl)) (needs_at hd 1 161 rfl (by kernel_rfl)) (needs_at hd 3 163 rfl (by kernel_rfl)) (needs_at hd 6 166 rfl (by kernel_rfl)) (needs_at hd 7 167 rfl (by kernel_rfl)) (needs_at hd 8 168 rfl (by kernel_rfl)) (needs_at hd 9 169 rfl (by kernel_rfl)))
  | 11, _ => arm_ rfl (fun a w hb hd hold => by
      obtain ⟨A, c, hv, _, _⟩ := needs_at hd 10 170 rfl (by kernel_rfl)
      exact ⟨.int .i64 8, w, len_b8 rfl rfl hv, Below.refl _ _, rfl⟩)
  | 12, _ => arm_ rfl (fun a w hb hd hold => ⟨.int .i64 0, w, by unfold execOp; rfl, Below.refl _ _, rfl⟩)
  | n + 13, h => absurd h (by omega)
def S16 (N : List Int) (T : List ByteArray) (k : Nat) : List Pr := [.ns N, .ag (⟨1, 3, 0, ⟨#[]⟩, N, []⟩ : Fl), .ts T, .ag (⟨2, 4, 0, ⟨#[]⟩, [], T⟩ : Fl), .fs [(⟨1, 3, 0, ⟨#[]⟩, N, []⟩ : Fl), (⟨2, 4, 0, ⟨#[]⟩, [], T⟩ : Fl)], .pt k 0, .pt k 0, .sl k, .va (.int .i64 0), .sl k, .va (.int .i64 0)]
def D16 : List Tmp := [125, 126, 127, 128, 129, 130, 124, 131, 132, 12, 13]
theorem ext0 {a : Act} {w : World} {o : Oper} {y : Operand} {k : Nat} {e : Int} (ho : o.op = .extract y 0) (hy : (Pr.pt k e).holds (a.eval y) w) : ∃ v w', (execOp a.eval o).run Try.prog w = .ok (.value v) w' ∧ Below w.heap.size w w' ∧ (Pr.sl k).holds v w' := by
  obtain ⟨A, c, hv⟩ := hy
  refine ⟨.slice A k c, w, ?_, Below.refl _ _, A, c, rfl⟩
  unfold execOp
  rw [ho]
  simp only [hv]
  rfl
theorem ext1 {a : Act} {w : World} {o : Oper} {y : Operand} {k : Nat} {e : Int} (ho : o.op = .extract y 1) (hy : (Pr.pt k e).holds (a.eval y) w) : ∃ v w', (execOp a.eval o).run Try.prog w = .ok (.value v) w' ∧ Below w.heap.size w w' ∧ (Pr.va (.int .i64 e)).holds v w' := by
  obtain ⟨A, c, hv⟩ := hy
  refine ⟨.int .i64 e, w, ?_, Below.refl _ _, rfl⟩
  unfold execOp
  rw [ho]
  simp only [hv]
  rfl
set_option maxHeartbeats 8000000 in
set_option maxRecDepth 100000 in
theorem steps16 {Q : Exit → Act → World → Prop} {a0 : Act} {w0 : World} (N : List Int) (T : List ByteArray) (k : Nat) (hN : N = List.replicate 256 (0 : Int)) (hT : T = List.replicate 256 (⟨#[]⟩ : ByteArray)) (hp : ((putR [(⟨1, 3, 0, ⟨#[]⟩, N, []⟩ : Fl), (⟨2, 4, 0, ⟨#[]⟩, [], T⟩ : Fl)]).1.length = k ∧ (putR [(⟨1, 3, 0, ⟨#[]⟩, N, []⟩ : Fl), (⟨2, 4, 0, ⟨#[]⟩, [], T⟩ : Fl)]).2 = 0)) : ∀ i, i < 11 → StepAt Try.prog (opsOf Try.f3 16) Q (Fam (S16 N T k)) D16 a0 w0 i
  | 0, _ => arm_wp rfl (fun a w hb hd hold K hK => mk_arm (Kd.int .i64) 27 2 256 rfl rfl rfl Try.underlying27 (.int .i64 0) 8 (by kernel_rfl) rfl (by decide) (by decide) (0 : Int) rfl (by decide) K (fun v w' hB' h => hK v w' hB' (by
      obtain ⟨A, c, h1, h2, h3⟩ := h
      exact ⟨A, c, by rw [h1, hN, List.length_replicate], by rw [hN, List.length_replicate]; exact h2, by rw [hN, List.length_replicate]; exact h3⟩)))
  | 1, _ => arm_ rfl (fun a w hb hd hold => bN (x := (⟨1, 3, 0, ⟨#[]⟩, N, []⟩ : Fl)) rfl (needs_at hd 0 125 rfl (by kernel_rfl)))
  | 2, _ => arm_wp rfl (fun a w hb hd hold K hK => mk_arm Kd.string 28 9 256 rfl rfl rfl Try.underlying28 (.string ⟨#[]⟩) 16 (by kernel_rfl) rfl (by decide) (by decide) (⟨#[]⟩ : ByteArray) rfl (by decide) K (fun v w' hB' h => hK v w' hB' (by
      obtain ⟨A, c, h1, h2, h3⟩ := h
      exact ⟨A, c, by rw [h1, hT, List.length_replicate], by rw [hT, List.length_replicate]; exact h2, by rw [hT, List.length_replicate]; exact h3⟩)))
  | 3, _ => arm_ rfl (fun a w hb hd hold => bT (x := (⟨2, 4, 0, ⟨#[]⟩, [], T⟩ : Fl)) rfl (needs_at hd 2 127 rfl (by kernel_rfl)))
  | 4, _ => arm_ rfl (fun a w hb hd hold => fs2 rfl (needs_at hd 1 126 rfl (by kernel_rfl)) (needs_at hd 3 128 rfl (by kernel_rfl)))
  | 5, _ => arm_wp rfl (fun a w hb hd hold K hK => by
      obtain ⟨A, c, hv, hc, hC⟩ := needs_at hd 4 129 rfl (by kernel_rfl)
      refine wp_call (f := 8) Try.func8 (by kernel_rfl) rfl #[.slice A 2 c] rfl rfl (by simp only [List.map_toArray, List.map_cons, List.map_nil]; rw [show a.eval (.tmp 129) = .slice A 2 c from hv]) ((Put_calls _ A c 2 rfl w hC hc (by simp)).mono ?_)
      rintro e w' ⟨A', c', rfl, _, _, hB⟩
      rw [hp.1, hp.2]
      exact ⟨_, rfl, hK _ w' hB ⟨A', c', rfl⟩⟩)
  | 6, _ => arm_ rfl (fun a w hb hd hold => ⟨a.eval (.tmp 130), w, by unfold execOp; rfl, Below.refl _ _, (needs_at hd 5 130 rfl (by kernel_rfl))⟩)
  | 7, _ => arm_ rfl (fun a w hb hd hold => ext0 rfl (needs_at hd 6 124 rfl (by kernel_rfl)))
  | 8, _ => arm_ rfl (fun a w hb hd hold => ext1 rfl (needs_at hd 6 124 rfl (by kernel_rfl)))
  | 9, _ => arm_ rfl (fun a w hb hd hold => ⟨a.eval (.tmp 131), w, by unfold execOp; rfl, Below.refl _ _, (needs_at hd 7 131 rfl (by kernel_rfl))⟩)
  | 10, _ => arm_ rfl (fun a w hb hd hold => ⟨a.eval (.tmp 132), w, by unfold execOp; rfl, Below.refl _ _, (needs_at hd 8 132 rfl (by kernel_rfl))⟩)
  | n + 11, h => absurd h (by omega)
end Go.Proofs.Ytnhkbjihgepapaa.Fd
/- The law FieldNumbers. (A part of the print PF.) -/
set_option linter.unusedVariables false
set_option linter.unusedSimpArgs false
namespace Go.Proofs.Ytnhkbjihgepapaa.Fd
open Go.RowKit Go.Proofs.YtnhkbjihgepapaaW.PrintWords Go.Proofs.YtnhkbjihgepapaaW.PrintLast Go.Proofs.YtnhkbjihgepapaaW.PrintMore Go.Proofs.YtnhkbjihgepapaaW.PrintAny Go.Proofs.Ytnhkbjihgepapaa.PF
attribute [local go_sem] max2_int min2_int max_two min_two
theorem put3 (w : World) (O : Obj) (hO : O = .cells #[.int .i64 (-1)] 2) (A : Option Addr) (W : World) (hW : W = (w.alloc O).alloc (.cells #[.int .u8 3, .int .u8 3, .int .i64 0, .string ⟨#[]⟩, .slice (some ⟨w.heap.size, 0, none⟩) 1 1, .slice none 0 0] 30)) (hA : A = some ⟨w.heap.size + 1, 0, none⟩) :
    Calls Try.prog 8 #[.slice A 1 1] W fun e w' => ∃ A' c', e = .returned (.tuple #[.slice A' 13 c', .int .i64 0]) ∧ Kd.C (Kd.int .u8) w' A' 13 [1, 3, 3, 0, 1, 255, 255, 255, 255, 255, 255, 255, 255] ∧ Below w.heap.size w w' := by
  subst hO hA
  have hs : (w.alloc (.cells #[.int .i64 (-1)] 2)).heap.size = w.heap.size + 1 := by unfold World.alloc; simp
  have h1 := heap_alloc_new (w.alloc (.cells #[.int .i64 (-1)] 2)) (.cells #[.int .u8 3, .int .u8 3, .int .i64 0, .string ⟨#[]⟩, .slice (some ⟨w.heap.size, 0, none⟩) 1 1, .slice none 0 0] 30)
  rw [hs, ← hW] at h1
  have h2 : W.heap[w.heap.size]? = some (.cells #[.int .i64 (-1)] 2 (0, 0)) := by rw [hW]; exact blk_alloc (heap_alloc_new w _) _
  have hb : Below w.heap.size w W := by rw [hW]; exact below_alloc (below_alloc (Below.refl _ _) _) _
  have g4 : Kd.C (Kd.int .i64) W (some ⟨w.heap.size, 0, none⟩) 1 [-1] := C_lit _ h2 [-1] (fun _ => [.int .i64 (-1)]) (by simp) (fun j x hx => by
    match j, hx with
    | 0, hx =>
      obtain rfl : -1 = x := by simpa using hx
      exact ⟨rfl, rfl, fun i v hv => by rw [Nat.zero_mul, Nat.zero_add]; simpa using hv⟩)
  have hC : Kd.C k30 W (some ⟨w.heap.size + 1, 0, none⟩) 1 ([⟨3, 3, 0, ⟨#[]⟩, [-1], []⟩] : List Fl) := C_lit _ h1 ([⟨3, 3, 0, ⟨#[]⟩, [-1], []⟩] : List Fl) (fun _ => [.int .u8 3, .int .u8 3, .int .i64 0, .string ⟨#[]⟩, .slice (some ⟨w.heap.size, 0, none⟩) 1 1, .slice none 0 0]) (by simp) (fun j x hx => by
    match j, hx with
    | 0, hx =>
      obtain rfl : (⟨3, 3, 0, ⟨#[]⟩, [-1], []⟩ : Fl) = x := by simpa using hx
      exact ⟨rfl, k30_mk W ⟨3, 3, 0, ⟨#[]⟩, [-1], []⟩ (Nat.le_refl 1) g4 (Nat.le_refl 0) (Kd.C_nil _ _), fun i v hv => by rw [Nat.zero_mul, Nat.zero_add]; simpa using hv⟩)
  refine (Put_yes _ _ _ 1 1 rfl W hC (Nat.le_refl 1) (by decide) puts_fixed.2 13 rfl).mono ?_
  rintro e w' ⟨A', c', rfl, _, h3, h4⟩
  exact ⟨A', c', rfl, h3, below_then hb hb.size h4⟩
theorem wl_any {P : Program} {ops : Array Oper} {rest : List Oper} {o : Oper} {a : Act} {W : World} {Q : Exit → Act → World → Prop} {Pv : Value → World → Prop} (hgd : o.guard = none) (h : ∀ K : Act → World → Prop, (∀ v w', Below W.heap.size W w' → Pv v w' → K (a.put o.dst v) w') → Oper.wp P o a W K Q)
    (next : ∀ v w', Below W.heap.size W w' → Pv v w' → wpList P ops Q rest (a.put o.dst v) w') : wpList P ops Q (o :: rest) a W :=
  wpList_plain hgd fun K hK => h K (fun v w' hb hp => hK _ _ (next v w' hb hp))
theorem wl_conv {P : Program} {ops : Array Oper} {rest : List Oper} {o : Oper} {a : Act} {W : World} {Q : Exit → Act → World → Prop} {y : Operand} {s d e : TypeId} {A : Option Addr} {n c : Nat} {l : List Int} (ho : o.op = .convert s d y) (hgd : o.guard = none) (hs : P.underlying s = some (.slice e)) (he : P.underlying e = some (.int .u8)) (hd : P.underlying d = some .string) (hy : a.eval y = .slice A n c) (hC : Kd.C (Kd.int .u8) W A n l)
    (next : wpList P ops Q rest (a.put o.dst (.string (strOfNums l))) W) : wpList P ops Q (o :: rest) a W :=
  Kd.event_run hgd (by
    unfold execOp
    rw [ho]
    simp only [hy, Sem.run_bind, Kd.C_string hs he hd hC, Result.andThen_ok]
    rfl) next
theorem putS (s : ByteArray) (w : World) (O : Obj) (hO : O = .cells #[.int .u8 1, .int .u8 2, .int .i64 0, .string s, .slice none 0 0, .slice none 0 0] 30) (X : List Int × Int) (hX : putR [⟨1, 2, 0, s, [], []⟩] = X) (n : Nat) (hn : X.1.length = n) (e0 : Int) (he0 : X.2 = e0) :
    Calls Try.prog 8 #[.slice (some ⟨w.heap.size, 0, none⟩) 1 1] (w.alloc O) fun e w' => ∃ A' c', e = .returned (.tuple #[.slice A' n c', .int .i64 e0]) ∧ n ≤ c' ∧ Kd.C (Kd.int .u8) w' A' X.1.length X.1 ∧ Below w.heap.size w w' := by
  subst hO
  have h1 := heap_alloc_new w (.cells #[.int .u8 1, .int .u8 2, .int .i64 0, .string s, .slice none 0 0, .slice none 0 0] 30)
  have hb := below_alloc (Below.refl w.heap.size w) (.cells #[.int .u8 1, .int .u8 2, .int .i64 0, .string s, .slice none 0 0, .slice none 0 0] 30)
  have hC : Kd.C k30 (w.alloc (.cells #[.int .u8 1, .int .u8 2, .int .i64 0, .string s, .slice none 0 0, .slice none 0 0] 30)) (some ⟨w.heap.size, 0, none⟩) 1 ([⟨1, 2, 0, s, [], []⟩] : List Fl) := C_lit _ h1 ([⟨1, 2, 0, s, [], []⟩] : List Fl) (fun _ => [.int .u8 1, .int .u8 2, .int .i64 0, .string s, .slice none 0 0, .slice none 0 0]) (by simp) (fun j x hx => by
    match j, hx with
    | 0, hx =>
      obtain rfl : (⟨1, 2, 0, s, [], []⟩ : Fl) = x := by simpa using hx
      exact ⟨rfl, k30_mk _ ⟨1, 2, 0, s, [], []⟩ (Nat.le_refl 0) (Kd.C_nil _ _) (Nat.le_refl 0) (Kd.C_nil _ _), fun i v hv => by rw [Nat.zero_mul, Nat.zero_add]; simpa using hv⟩)
  refine (Put_calls ([⟨1, 2, 0, s, [], []⟩] : List Fl) _ 1 1 rfl _ hC (Nat.le_refl 1) (by simp)).mono ?_
  rw [hX]
  rintro e w' ⟨A', c', rfl, h2, h3, h4⟩
  rw [hn] at h2
  exact ⟨A', c', by rw [hn, he0], h2, h3, below_then hb hb.size h4⟩
theorem ll_at {w : World} {A : Option Addr} {L : List (List Fl)} (h : Kd.C (Kd.slice 30 k30) w A L.length L) (j : Nat) (hj : j < L.length) : ∃ ad Aj cj, A = some ad ∧ w.cell? (ad.add j) = some (.slice Aj L[j].length cj) ∧ L[j].length ≤ cj ∧ Kd.C k30 w Aj L[j].length L[j] := by
  obtain ⟨_, _, h3⟩ := h
  obtain ⟨ad, e, hc⟩ := h3 (by omega)
  obtain ⟨c, _, hK, hcell⟩ := hc j L[j] (List.getElem?_eq_getElem hj)
  obtain ⟨Aj, cj, rfl, h1, h2⟩ := hK
  have := hcell 0 _ rfl
  rw [show (Kd.slice 30 k30).sz = 1 from rfl, Nat.mul_one, Nat.add_zero] at this
  exact ⟨ad, Aj, cj, e, this, h1, h2⟩
theorem lb_at {w : World} {A : Option Addr} {L : List (List Int)} (h : Kd.C (Kd.slice 5 (Kd.int .u8)) w A L.length L) (j : Nat) (hj : j < L.length) : ∃ ad Aj cj, A = some ad ∧ w.cell? (ad.add j) = some (.slice Aj L[j].length cj) ∧ L[j].length ≤ cj ∧ Kd.C (Kd.int .u8) w Aj L[j].length L[j] := by
  obtain ⟨_, _, h3⟩ := h
  obtain ⟨ad, e, hc⟩ := h3 (by omega)
  obtain ⟨c, _, hK, hcell⟩ := hc j L[j] (List.getElem?_eq_getElem hj)
  obtain ⟨Aj, cj, rfl, h1, h2⟩ := hK
  have := hcell 0 _ rfl
  rw [show (Kd.slice 5 (Kd.int .u8)).sz = 1 from rfl, Nat.mul_one, Nat.add_zero] at this
  exact ⟨ad, Aj, cj, e, this, h1, h2⟩
theorem same_lit (A : Option Addr) (c n : Nat) (m : List Int) (hn : n = m.length) (hm : m.length ≤ 1000) (w : World) (O : Obj) (hO : O = .cells (m.map (Value.int .u8)).toArray 5) (hr : Kd.C (Kd.int .u8) w A m.length m) (hb : m.all (fun x => decide (0 ≤ x ∧ x ≤ 255)) = true) :
    Calls Try.prog 9 #[.slice A n c, .slice (some ⟨w.heap.size, 0, none⟩) n n] (w.alloc O) fun e w' => e = .returned (.bool true) ∧ Below w.heap.size w w' := by
  have hB : Bts m := fun x hx => of_decide_eq_true (List.all_eq_true.1 hb x hx)
  have hl := below_alloc (Below.refl w.heap.size w) O
  have hC := C_bytes (w := w.alloc O) (g := w.heap.size) (t := 5) m hm (by rw [hO]; exact heap_alloc_new w _)
  refine (Bytes_calls A c n m hn (some ⟨w.heap.size, 0, none⟩) n n m hn (w.alloc O) (Kd.C_below hr hl) hC hB hB).mono ?_
  rintro e w' ⟨rfl, h⟩
  exact ⟨by rw [decide_eq_true rfl], below_then hl hl.size h⟩
set_option maxRecDepth 100000 in
set_option maxHeartbeats 16000000 in
theorem numbers_law (w : World) : Calls Try.prog 3 #[] w fun e w' => e = .returned (.bool true) ∧ Below w.heap.size w w' := by
  have HP0 := Lib.hid (Put_yes [] [0] none 0 0 rfl w (Kd.C_nil _ _) (Nat.le_refl 0) (by decide) puts_fixed.1 1 rfl)
  go_enter Try.func3, Try.ntmps3
  go_wp2_with fail
  refine HP0.out.mono ?_
  rintro e w1 ⟨A1, c1, rfl, hc1, hC1, hb⟩
  have HC1 := Lib.hid hC1
  have HB1 := Lib.hid hb
  have HL1 := Lib.hid hc1
  clear hC1 hb hc1 HP0
  go_wp2_with fail
  refine (put3 w1 _ rfl _ _ rfl (by first | rfl | (simp [World.alloc]; done))).mono ?_
  rintro e w2 ⟨A2, c2, rfl, hC2, hb⟩
  have HC2 := Lib.hid hC2
  have HC12 := Lib.hid (Kd.C_below HC1.out hb)
  have HB2 := Lib.hid (below_then HB1.out HB1.out.size hb)
  clear hC2 hb HC1 HB1
  go_wp2_with fail
  refine (same_lit A1 c1 1 [0] rfl (by decide) w2 _ rfl HC12.out (by decide)).mono ?_
  rintro e w3 ⟨rfl, hb⟩
  have HC23 := Lib.hid (Kd.C_below HC2.out hb)
  have HB3 := Lib.hid (below_then HB2.out HB2.out.size hb)
  clear hb HC2 HB2 HC12
  go_wp2_with fail
  refine (same_lit A2 c2 13 [1, 3, 3, 0, 1, 255, 255, 255, 255, 255, 255, 255, 255] rfl (by decide) w3 _ rfl HC23.out (by decide)).mono ?_
  rintro e w4 ⟨rfl, hb⟩
  have HB4 := Lib.hid (below_then HB3.out HB3.out.size hb)
  clear hb HC23 HB3 HL1
  go_wp2
  go_loopw [6, 7] (fun v6 v7 wr => ∃ j : Nat, j ≤ 65 ∧ v7 = .int .i64 j ∧ Hid (Below w4.heap.size w4 wr) ∧ Hid (Kd.R k30 30 wr w4.heap.size (fun _ => True) v6 (many j))) (fun _ v7 _ => 65 - (intOf v7).toNat)
  case atStart => exact ⟨0, Nat.zero_le _, rfl, Lib.hid (Below.refl _ _), Lib.hid (Kd.R_nil _ _ _ _ _)⟩
  case round =>
    obtain ⟨j, hj, rfl, HBr, HR⟩ := hrel
    by_cases hlt : j < 65
    · have hw : wrap64 ((j : Int) + 1) = (j : Int) + 1 := by unfold wrap64; omega
      have h8 : IntKind.u8.wrap (j : Int) = (j : Int) := by unfold IntKind.wrap; simp [IntKind.bits, IntKind.signed]; omega
      have hmk : Kd.M k30 wr w4.heap.size (fun _ => False) ⟨(j : Int), 1, 1, ⟨#[]⟩, [], []⟩ [.int .u8 (j : Int), .int .u8 1, .int .i64 1, .string ⟨#[]⟩, .slice none 0 0, .slice none 0 0] := k30_mkM wr w4.heap.size _ ⟨(j : Int), 1, 1, ⟨#[]⟩, [], []⟩ (Kd.R_nil _ _ _ _ _) (Kd.R_nil _ _ _ _ _)
      have HM := Lib.hid hmk
      clear hmk
      have hl : ((many j).length + 1) * 80 ≤ 140737488355328 := by rw [many_len]; omega
      go_wp2_with ((with_reducible refine gate_builtin (b := .append) (xs := #[.tmp 55, .tmp 59]) rfl ?_); at_builtin; refine Kd.R_append k30 (w0 := w4) w4.heap.size rfl (.tmp 55) (.tmp 59) 31 30 (.agg #[.int .u8 0, .int .u8 0, .int .i64 0, .string ⟨#[]⟩, .slice none 0 0, .slice none 0 0]) 80 rfl Try.underlying31 info30 rfl (by decide) (by decide) u6 (many j) ⟨(j : Int), 1, 1, ⟨#[]⟩, [], []⟩ [.int .u8 (j : Int), .int .u8 1, .int .i64 1, .string ⟨#[]⟩, .slice none 0 0, .slice none 0 0] (fun _ => True) (fun _ => False) rfl rfl HM.out (fun _ h => h.elim) (fun _ _ => trivial) HR.out HBr.out HBr.out.size hl ?_; intro v w5 ho hb _ _; have HRn := Lib.hid ho; have HBn := Lib.hid hb; clear ho hb)
      go_roundw
      case rel => exact ⟨j + 1, by omega, by simp, HBn, Lib.hid (by rw [← many_next]; exact HRn.out)⟩
      case measure => simp [intOf]; omega
    · obtain rfl : j = 65 := by omega
      clear hlt hj
      obtain ⟨A6, c6, e6, hc6, hC6⟩ := Kd.R_reads HR.out
      obtain ⟨M, hM⟩ : ∃ M, M = many 65 := ⟨_, rfl⟩
      rw [← hM] at e6 hc6 hC6
      have hM65 : M.length = 65 := by rw [hM, many_len]
      rw [hM65] at e6
      subst e6
      have H6 := Lib.hid (And.intro hc6 hC6)
      have HM := Lib.hid (And.intro hM hM65)
      have HB5 := Lib.hid (below_then HB4.out HB4.out.size HBr.out)
      clear hc6 hC6 hM hM65 HR HBr HB4
      obtain ⟨N, hN⟩ : ∃ N, N = List.replicate 257 (0 : Int) := ⟨_, rfl⟩
      obtain ⟨T, hT⟩ : ∃ N, N = List.replicate 257 (⟨#[]⟩ : ByteArray) := ⟨_, rfl⟩
      obtain ⟨B, hB⟩ : ∃ N, N = List.replicate 65536 (0 : Int) := ⟨_, rfl⟩
      have HN := Lib.hid hN
      have HT := Lib.hid hT
      have HBB := Lib.hid hB
      clear hN hT hB
      go_upto_region 9 with (fail)
      refine region_any (F := Fam (S9 N T B M)) (D := D9) (by kernel_rfl) (by kernel_rfl) ?_ (Fam.mono _) (steps9 N T B M HN.out HT.out HBB.out ?_) ?_
      · intro t ht
        have h : D9.all (fun t => decide (t < 224)) = true := by decide
        exact of_decide_eq_true (List.all_eq_true.1 h t ht)
      · exact ⟨A6, c6, by rw [HM.out.2]; rfl, H6.out.1, Kd.C_drew H6.out.2⟩
      intro v W hbW hF
      obtain ⟨A40, c40, h40, hl40, hC40⟩ : (Pr.ll (L9 N T B M)).holds (v 40) W := hF 40 (by decide)
      replace h40 : v 40 = .slice A40 15 c40 := h40
      have h41 : v 41 = .int .i64 15 := hF 41 (by decide)
      have h42 : v 42 = .int .i64 0 := hF 42 (by decide)
      have HC40 := Lib.hid hC40
      have HB6 := Lib.hid (below_then HB5.out HB5.out.size (below_then (below_drew (Below.refl _ _)) (Nat.le_refl _) hbW))
      have HC6 := Lib.hid (Kd.C_below (Kd.C_drew H6.out.2) hbW)
      clear hF hC40 hbW hl40
      simp only [puts, D9, List.setIfInBounds_toArray, List.set_cons_zero, List.set_cons_succ, Nat.zero_add, Nat.reduceAdd, h40, h41, h42]
      clear h40 h41 h42
      have HLL := Lib.hid (bad15 N T B M (by rw [HN.out, List.length_replicate]) (by rw [HT.out, List.length_replicate]) (by rw [HBB.out, List.length_replicate]) HM.out.2)
      go_wp2
      go_loopw [103] (fun v103 wr => ∃ j : Nat, j ≤ 15 ∧ v103 = .int .i64 j ∧ Hid (Below W.heap.size W wr)) (fun v103 _ => 15 - (intOf v103).toNat)
      case atStart => exact ⟨0, Nat.zero_le _, rfl, Lib.hid (Below.refl _ _)⟩
      case round =>
        obtain ⟨j, hj, rfl, HBr⟩ := hrel
        by_cases hlt : j < 15
        · have hjl : j < (L9 N T B M).length := hlt
          obtain ⟨ad, Aj, cj, e1, hcell, hcj, hCj⟩ := ll_at HC40.out j hjl
          cases e1
          obtain ⟨x, hx⟩ : ∃ x, x = (L9 N T B M)[j] := ⟨_, rfl⟩
          have hbx := HLL.out x (by rw [hx]; exact List.getElem_mem hjl)
          rw [← hx] at hcell hcj hCj
          obtain ⟨n, hn⟩ : ∃ n, n = x.length := ⟨_, rfl⟩
          rw [← hn] at hcell
          have hcell2 : wr.cell? (ad.add j) = some (.slice Aj n cj) := (HBr.out.cell (World.block_lt_of_cell? _ _ hcell)).trans hcell
          have HP := Lib.hid (fun V (hb : Below wr.heap.size wr V) => Put_calls x Aj cj n hn V (Kd.C_below (Kd.C_below hCj HBr.out) hb) hcj (by have := hbx.2; omega))
          rw [put_bad hbx.1] at HP
          have HRt := Lib.hid (fun V (hb : Below wr.heap.size wr V) => Right_calls x Aj cj n hn V (by have := hbx.2; omega) (Kd.C_below (Kd.C_below hCj HBr.out) hb) hcj)
          rw [hbx.1] at HRt
          have hw : wrap64 ((j : Int) + 1) = (j : Int) + 1 := by unfold wrap64; omega
          clear hjl hx hbx hn hcell hcj hCj
          go_wp2_with fail
          refine (HP.out wr (Below.refl _ _)).mono ?_
          rintro e x1 ⟨A', c', rfl, _, _, hb⟩
          have HBx := Lib.hid hb
          clear hb hcell2
          go_wp2_with fail
          refine (HRt.out x1 HBx.out).mono ?_
          rintro e x2 ⟨rfl, hb⟩
          have HBy := Lib.hid (below_then HBr.out HBr.out.size (below_then HBx.out HBx.out.size hb))
          clear hb
          go_wp2
          go_roundw
          case rel =>
            (repeat apply Exists.intro)
            exact ⟨⟨j + 1, by omega, by simp, HBy⟩, rfl⟩
          case measure => simp [intOf]; omega
        · obtain rfl : j = 15 := by omega
          have HB7 := Lib.hid (below_then HB6.out HB6.out.size HBr.out)
          have HC7 := Lib.hid (Kd.C_below HC6.out HBr.out)
          clear hj hlt HBr HB6 HC6 HC40 HLL
          clear HN HT HBB N T B
          go_upto_region 16 with (fail)
          obtain ⟨N, hN⟩ : ∃ N, N = List.replicate 256 (0 : Int) := ⟨_, rfl⟩
          obtain ⟨T, hT⟩ : ∃ N, N = List.replicate 256 (⟨#[]⟩ : ByteArray) := ⟨_, rfl⟩
          obtain ⟨k, hk⟩ : ∃ k, k = (putR [⟨1, 3, 0, ⟨#[]⟩, N, []⟩, ⟨2, 4, 0, ⟨#[]⟩, [], T⟩]).1.length := ⟨_, rfl⟩
          have hp : (putR [⟨1, 3, 0, ⟨#[]⟩, N, []⟩, ⟨2, 4, 0, ⟨#[]⟩, [], T⟩]).1.length = k ∧ (putR [⟨1, 3, 0, ⟨#[]⟩, N, []⟩, ⟨2, 4, 0, ⟨#[]⟩, [], T⟩]).2 = 0 := ⟨hk.symm, by rw [hN, hT]; exact put_256⟩
          have HN := Lib.hid hN
          have HT := Lib.hid hT
          have HPk := Lib.hid hp
          clear hN hT hk hp
          refine region_any (F := Fam (S16 N T k)) (D := D16) (by kernel_rfl) (by kernel_rfl) ?_ (Fam.mono _) (steps16 N T k HN.out HT.out HPk.out) ?_
          · intro t ht
            have h : D16.all (fun t => decide (t < 224)) = true := by decide
            exact of_decide_eq_true (List.all_eq_true.1 h t ht)
          intro v V hbV hF
          have h10 : v 10 = .int .i64 0 := hF 10 (by decide)
          have HB8 := Lib.hid (below_then HB7.out HB7.out.size (below_then (below_drew (Below.refl _ _)) (Nat.le_refl _) hbV))
          have HC8 := Lib.hid (Kd.C_below (Kd.C_drew HC7.out) hbV)
          clear hF hbV HB7 HC7 HN HT HPk
          simp only [puts, D16, List.setIfInBounds_toArray, List.set_cons_zero, List.set_cons_succ, Nat.zero_add, Nat.reduceAdd, h10]
          clear h10
          go_wp2_with (first | ((with_reducible refine gate_ (.makeSlice 22 (.const (.int .i64 64995)) (.const (.int .i64 64995))) rfl ?_); refine wl_any rfl (mk_arm (Kd.int .u8) 22 5 64995 rfl rfl rfl Try.underlying22 (.int .u8 0) 1 (by kernel_rfl) rfl (by decide) (by decide) (0 : Int) rfl (by decide)) ?_; rintro v x3 hbz ⟨Az, cz, hvz, hcz, hCz⟩; subst hvz; obtain ⟨Lz, hLz⟩ : ∃ L, L = List.replicate 64995 (0 : Int) := ⟨_, rfl⟩; rw [← hLz] at hCz; have HLz := Lib.hid hLz; have HCz := Lib.hid hCz; have HBz := Lib.hid (below_then HB8.out HB8.out.size hbz); have HBk := Lib.hid hbz; clear hbz hcz hCz hLz) | ((with_reducible refine gate_ (.convert 22 9 (.tmp 134)) rfl ?_); refine wl_conv rfl rfl Try.underlying22 Try.underlying5 Try.underlying9 rfl HCz.out ?_) | fail)
          obtain ⟨s, hs⟩ : ∃ s, s = strOfNums Lz := ⟨_, rfl⟩
          have hsz : s.size = 64995 := by rw [hs, strOfNums_size, HLz.out, List.length_replicate]
          rw [← hs]
          have hpl := put_long (s := s) (by omega) (by omega)
          have hpr : putR [⟨1, 2, 0, s, [], []⟩] = (putL [⟨1, 2, 0, s, [], []⟩], 0) := by unfold putR; rw [if_pos hpl.1, if_neg (by omega)]
          have HPL := Lib.hid (And.intro hpl.1 (show (putL [⟨1, 2, 0, s, [], []⟩]).length = 65000 by omega))
          have HPR := Lib.hid hpr
          have HC9 := Lib.hid (Kd.C_below HC8.out HBk.out)
          clear hs hsz hpl hpr HLz HCz HBk HB8 HC8
          refine (putS s x3 _ rfl _ HPR.out 65000 HPL.out.2 0 rfl).mono ?_
          rintro e x4 ⟨A14, c14, rfl, hc14, hC14, hb⟩
          obtain ⟨b, hbb⟩ : ∃ b, b = putL [⟨1, 2, 0, s, [], []⟩] := ⟨_, rfl⟩
          replace hC14 : Kd.C (Kd.int .u8) x4 A14 b.length b := by rw [hbb]; exact hC14
          have hwf : ∀ x ∈ ([⟨1, 2, 0, s, [], []⟩] : List Fl), Wf x := fun x hx => by
            obtain rfl := List.mem_singleton.1 hx
            exact ⟨⟨show (0 : Int) ≤ 1 by decide, show (1 : Int) ≤ 255 by decide⟩, ⟨show (-9223372036854775808 : Int) ≤ 0 by decide, show (0 : Int) ≤ 9223372036854775807 by decide⟩, fun n hn => (List.not_mem_nil hn).elim⟩
          have HBT := Lib.hid (And.intro (show b.length = 65000 by rw [hbb]; exact HPL.out.2) (And.intro (show Bts b by rw [hbb]; exact putL_bytes HPL.out.1 hwf) (show allF b = ([⟨1, 2, 0, s, [], []⟩], 0) by rw [hbb]; exact allF_put HPL.out.1 hwf (by rw [HPL.out.2]; exact Nat.le_refl _))))
          have HC14 := Lib.hid (And.intro hC14 hc14)
          have HC10 := Lib.hid (Kd.C_below HC9.out hb)
          have HB9 := Lib.hid (below_then HBz.out HBz.out.size hb)
          clear hC14 hc14 hb hbb hwf HPL HPR HC9 HBz
          go_wp2_with (first | ((with_reducible refine gate_ (.makeSlice 22 (.const (.int .i64 64996)) (.const (.int .i64 64996))) rfl ?_); refine wl_any rfl (mk_arm (Kd.int .u8) 22 5 64996 rfl rfl rfl Try.underlying22 (.int .u8 0) 1 (by kernel_rfl) rfl (by decide) (by decide) (0 : Int) rfl (by decide)) ?_; rintro v x5 hbz ⟨Az, cz, hvz, hcz, hCz⟩; subst hvz; obtain ⟨Lz, hLz⟩ : ∃ L, L = List.replicate 64996 (0 : Int) := ⟨_, rfl⟩; rw [← hLz] at hCz; have HLz := Lib.hid hLz; have HCz := Lib.hid hCz; have HBw := Lib.hid (below_then HB9.out HB9.out.size hbz); have HBk := Lib.hid hbz; clear hbz hcz hCz hLz) | ((with_reducible refine gate_ (.convert 22 9 (.tmp 142)) rfl ?_); refine wl_conv rfl rfl Try.underlying22 Try.underlying5 Try.underlying9 rfl HCz.out ?_) | fail)
          obtain ⟨s', hs⟩ : ∃ s, s = strOfNums Lz := ⟨_, rfl⟩
          have hsz : s'.size = 64996 := by rw [hs, strOfNums_size, HLz.out, List.length_replicate]
          rw [← hs]
          have hpl := put_long (s := s') (by omega) (by omega)
          have hpr : putR [⟨1, 2, 0, s', [], []⟩] = ([], 3) := by unfold putR; rw [if_pos hpl.1, if_pos (by omega)]
          have HPR := Lib.hid hpr
          have HC11 := Lib.hid (Kd.C_below HC10.out HBk.out)
          have HC15 := Lib.hid (Kd.C_below HC14.out.1 HBk.out)
          clear hs hsz hpl hpr HLz HCz HBk HB9 HC10
          refine (putS s' x5 _ rfl _ HPR.out 0 rfl 3 rfl).mono ?_
          rintro e x6 ⟨A16, c16, rfl, _, _, hb⟩
          have HC12 := Lib.hid (Kd.C_below HC11.out hb)
          have HC16 := Lib.hid (Kd.C_below HC15.out hb)
          have HB10 := Lib.hid (below_then HBw.out HBw.out.size hb)
          clear hb HC11 HC15 HBw HPR
          go_wp2_with fail
          refine (All_yes b _ A14 c14 65000 HBT.out.1.symm x6 HC16.out (by rw [HBT.out.1]; exact HC14.out.2) HBT.out.2.1 (by rw [HBT.out.1]; decide) HBT.out.2.2 1 rfl).mono ?_
          rintro e x7 ⟨A18, c18, rfl, _, _, hb⟩
          have HC13 := Lib.hid (Kd.C_below HC12.out hb)
          have HB11 := Lib.hid (below_then HB10.out HB10.out.size hb)
          clear hb HC12 HC16 HC14 HBT HB10
          have h65 : 65 ≤ c6 := by have := H6.out.1; have := HM.out.2; omega
          have HPm := Lib.hid (show Calls Try.prog 8 #[.slice A6 64 c6] x7 fun e w' => ∃ A' c', e = .returned (.tuple #[.slice A' (putR (many 64)).1.length c', .int .i64 0]) ∧ Below x7.heap.size x7 w' by
            have hC : Kd.C k30 x7 A6 (many 64).length (many 64) := by
              have h := HC13.out
              rw [HM.out.1] at h
              have h2 := Kd.C_take h (m := 64) (by rw [many_len]; decide)
              rw [many_take] at h2
              exact h2
            refine (Put_calls (many 64) A6 c6 64 (many_len 64).symm x7 hC (by rw [many_len]; omega) (by rw [many_len]; decide)).mono ?_
            rw [put_many]
            rintro e w' ⟨A', c', rfl, _, _, hb⟩
            exact ⟨A', c', rfl, hb⟩)
          go_wp2_with fail
          refine HPm.out.mono ?_
          rintro e x8 ⟨A20, c20, rfl, hb⟩
          have HB12 := Lib.hid (below_then HB11.out HB11.out.size hb)
          obtain ⟨n20, hn20⟩ : ∃ n, n = (putR (many 64)).1.length := ⟨_, rfl⟩
          rw [← hn20]
          clear hb HB11 HPm h65 HC13 hn20 H6 HM
          go_upto_region 21 with (fail)
          refine region_any (F := Fam S21) (D := D21) (by kernel_rfl) (by kernel_rfl) ?_ (Fam.mono _) steps21 ?_
          · intro t ht
            have h : D21.all (fun t => decide (t < 224)) = true := by decide
            exact of_decide_eq_true (List.all_eq_true.1 h t ht)
          intro v' U hbU hF
          obtain ⟨A21, c21, h10, hl21, hC21⟩ : (Pr.lb B21).holds (v' 10) U := hF 10 (by decide)
          replace h10 : v' 10 = .slice A21 8 c21 := h10
          have h11 : v' 11 = .int .i64 8 := hF 11 (by decide)
          have h12 : v' 12 = .int .i64 0 := hF 12 (by decide)
          have HC21 := Lib.hid hC21
          have HB13 := Lib.hid (below_then HB12.out HB12.out.size (below_then (below_drew (Below.refl _ _)) (Nat.le_refl _) hbU))
          clear hF hC21 hbU hl21 HB12
          simp only [puts, D21, List.setIfInBounds_toArray, List.set_cons_zero, List.set_cons_succ, Nat.zero_add, Nat.reduceAdd, h10, h11, h12]
          clear h10 h11 h12
          go_wp2
          go_loopw [172] (fun v172 wr => ∃ j : Nat, j ≤ 8 ∧ v172 = .int .i64 j ∧ Hid (Below U.heap.size U wr)) (fun v172 _ => 8 - (intOf v172).toNat)
          case atStart => exact ⟨0, Nat.zero_le _, rfl, Lib.hid (Below.refl _ _)⟩
          case round =>
            obtain ⟨j, hj, rfl, HBr⟩ := hrel
            by_cases hlt : j < 8
            · have hjl : j < B21.length := hlt
              obtain ⟨ad, Aj, cj, e1, hcell, hcj, hCj⟩ := lb_at HC21.out j hjl
              cases e1
              obtain ⟨x, hx⟩ : ∃ x, x = B21[j] := ⟨_, rfl⟩
              have hbx := cut8 x (by rw [hx]; exact List.getElem_mem hjl)
              rw [← hx] at hcell hcj hCj
              obtain ⟨n, hn⟩ : ∃ n, n = x.length := ⟨_, rfl⟩
              rw [← hn] at hcell
              have hcell2 : wr.cell? (ad.add j) = some (.slice Aj n cj) := (HBr.out.cell (World.block_lt_of_cell? _ _ hcell)).trans hcell
              have HA := Lib.hid (All_no x Aj cj n hn wr (Kd.C_below hCj HBr.out) hcj (fun y hy => of_decide_eq_true (List.all_eq_true.1 hbx.2.2 y hy)) (by have := hbx.2.1; omega) hbx.1)
              have hw : wrap64 ((j : Int) + 1) = (j : Int) + 1 := by unfold wrap64; omega
              clear hjl hx hbx hn hcell hcj hCj
              go_wp2_with fail
              refine HA.out.mono ?_
              rintro e y1 ⟨A', c', rfl, hb⟩
              have HBy := Lib.hid (below_then HBr.out HBr.out.size hb)
              clear hb hcell2
              go_wp2
              go_roundw
              case rel => exact ⟨j + 1, by omega, by simp, HBy⟩
              case measure => simp [intOf]; omega
            · obtain rfl : j = 8 := by omega
              have HB14 := Lib.hid (below_then HB13.out HB13.out.size HBr.out)
              clear hj hlt HBr HB13 HC21
              go_wp2_with fail
              refine (awake_calls _).mono ?_
              rintro e y1 ⟨rfl, hb⟩
              have HB15 := Lib.hid (below_then HB14.out HB14.out.size hb)
              clear hb HB14
              go_wp2
              go_ret
              exact ⟨rfl, HB15.out⟩
end Go.Proofs.Ytnhkbjihgepapaa.Fd
-- printed by wprint.py (this session's program over the kit's print.py)
namespace Go.Proofs.Ytnhkbjihgepapaa.PFFieldNumbers
open Go.RowKit Go.Proofs.YtnhkbjihgepapaaW.PrintWords Go.Proofs.YtnhkbjihgepapaaW.PrintLast Go.Proofs.YtnhkbjihgepapaaW.PrintMore
attribute [local go_sem] max2_int min2_int max_two min_two max_three min_three max_four min_four   -- for this text's walks alone
set_option linter.unusedVariables false
set_option linter.unusedSimpArgs false



def errW : Option Int → Value
  | none => .nilIface
  | some c => .iface 0 (.int .i64 c)
theorem errW_none : errW none = .nilIface := rfl
theorem errW_some (c : Int) : errW (some c) = .iface 0 (.int .i64 c) := rfl

-- the values' own types

end Go.Proofs.Ytnhkbjihgepapaa.PFFieldNumbers
-- printed by wprint.py (this session's program over the kit's print.py)
namespace Go.Proofs.Ytnhkbjihgepapaa.PFFieldNumbers
open Go.RowKit Go.Proofs.YtnhkbjihgepapaaW.PrintWords Go.Proofs.YtnhkbjihgepapaaW.PrintLast Go.Proofs.YtnhkbjihgepapaaW.PrintMore
attribute [local go_sem] max2_int min2_int max_two min_two max_three min_three max_four min_four   -- for this text's walks alone
set_option linter.unusedVariables false
set_option linter.unusedSimpArgs false

/-! ### musterlaw04_FieldNumbers: function 3 -/
def musterlaw04_FieldNumbers.f : Option Bool := some true
/-- Proved by a walk of its own: nothing is left over. -/
def musterlaw04_FieldNumbers.Pure : Prop := True
theorem musterlaw04_FieldNumbers.walk (_ : musterlaw04_FieldNumbers.Pure)  (w : World)  :
    Calls Try.prog 3 #[] w fun e w' => e = .returned (.bool true) ∧ Below w.heap.size w w' := by
  exact Fd.numbers_law w

end Go.Proofs.Ytnhkbjihgepapaa.PFFieldNumbers
namespace Go.Proofs.Ytnhkbjihgepapaa.Pure
open Go.RowKit Go.Proofs.Ytnhkbjihgepapaa.PFFieldNumbers Go.Proofs.YtnhkbjihgepapaaW.PrintWords Go.Proofs.YtnhkbjihgepapaaW.PrintLast

/-- Nothing is left over: the law is walked by hand. -/
theorem FieldNumbers : musterlaw04_FieldNumbers.Pure := trivial

end Go.Proofs.Ytnhkbjihgepapaa.Pure
