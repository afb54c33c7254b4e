/- Contracts of the library's generic functions, at this program's types, whatever the elements' kind. (Written by gen.py.) -/
import Derived.Test.YtnhkbjihgepapaaProg
import Derived.Below
import Derived.Deep.Draws
import Derived.Deep.AppendLies
import Derived.Maps.AppendAt
import Derived.OwnWalk
import Derived.Laws.BytesArg
import Derived.Laws.MakeOwn
import Derived.Laws.OwnMore
import Derived.Deep.OwnRows
import Derived.Tactics
import Derived.Lib.ConvBytes
import Derived.Laws.Slices
import Derived.WalkKit
import Derived.KernelRfl
import Derived.RowKit3
import Derived.Deep.LoopGhost
import Derived.Deep.QuietTactic
import Derived.BigQuiet
import Derived.WideLaws
import Derived.Deep.DeepCutAuto
import Derived.Deep.CutBlock
import Derived.Deep.RegionHeld3
import Derived.Laws.Rows
import Derived.Lib.AppendStr
import Derived.ArgAppend
import Derived.Laws.IdiomCopy
import Derived.OrdersHeld
import Derived.Laws.BitsLemmas
import Derived.RowKit
import Derived.Test.YtnhkbjihgepapaaWWords
import Derived.Test.YtnhkbjihgepapaaWLast
import Derived.Test.YtnhkbjihgepapaaWTab
import Derived.Test.YtnhkbjihgepapaaWQPut
import Derived.Test.YtnhkbjihgepapaaWApart
import Derived.Test.YtnhkbjihgepapaaWArr
import Derived.Test.YtnhkbjihgepapaaWZeros
import Derived.Test.YtnhkbjihgepapaaWFoot
import Derived.Test.YtnhkbjihgepapaaWKept
import Derived.Test.YtnhkbjihgepapaaWShare
import Derived.Test.YtnhkbjihgepapaaWN
import Derived.Test.YtnhkbjihgepapaaWEqStruct
import Derived.Test.YtnhkbjihgepapaaWRepsOne
import Derived.Test.YtnhkbjihgepapaaWGuard
import Derived.Test.YtnhkbjihgepapaaWNEv
import Derived.Test.YtnhkbjihgepapaaWMore
import Derived.Lib.Hide
import Derived.Lib.SliceRun
set_option linter.unusedVariables false
set_option linter.unusedSimpArgs false
namespace Go.Proofs.Ytnhkbjihgepapaa.Gen
open Go.RowKit Go.Proofs.YtnhkbjihgepapaaW.PrintWords Go.Proofs.YtnhkbjihgepapaaW.PrintLast Go.Proofs.YtnhkbjihgepapaaW.PrintMore
/-- The place of the first that it holds of, or -1. -/
def idxOf {α : Type} (l : List α) (p : α → Bool) : Int := if l.any p = true then (l.findIdx p : Int) else -1
theorem idxOf_at {α : Type} {l : List α} {p : α → Bool} {j : Nat} (hj : j < l.length) (h : ∀ i (hi : i < j), p (l[i]'(by omega)) = false) (hp : p l[j] = true) : idxOf l p = j := by
  have : l.any p = true := List.any_eq_true.2 ⟨l[j], List.getElem_mem hj, hp⟩
  unfold idxOf
  rw [if_pos this]
  congr 1
  exact (List.findIdx_eq hj).2 ⟨hp, h⟩
theorem idxOf_none {α : Type} {l : List α} {p : α → Bool} (h : ∀ i (hi : i < l.length), p l[i] = false) : idxOf l p = -1 := by
  unfold idxOf
  rw [if_neg]
  intro ha
  obtain ⟨x, hx, hp⟩ := List.any_eq_true.1 ha
  obtain ⟨i, hi, rfl⟩ := List.mem_iff_getElem.1 hx
  rw [h i hi] at hp
  cases hp
theorem idxOf_ge {α : Type} (l : List α) (p : α → Bool) : decide (idxOf l p ≥ 0) = l.any p := by
  unfold idxOf
  cases l.any p <;> simp
theorem idxOf_some {α : Type} {l : List α} {p : α → Bool} (h : l.any p = true) : ∃ j : Nat, j < l.length ∧ idxOf l p = j := by
  refine ⟨l.findIdx p, List.findIdx_lt_length_of_exists (by simpa using h), ?_⟩
  unfold idxOf
  rw [if_pos h]
/-- The element of a row, loaded at once. -/
theorem load_mid {α : Type} {d : Kd α} {t : TypeId} {w : World} {A : Option Addr} {n : Nat} {l : List α} {D : TypeDesc} (hu : Try.prog.underlying t = some D) (hd : D.isRow = true) (hi : (Try.prog.info? t).map (·.size) = some d.sz) (h : Kd.C d w A n l) (j : Nat) (hj : j < l.length) :
    ∃ (ad : Addr) (cs : List Value), A = some ad ∧ d.K w l[j] cs ∧ ∀ w' : World, Below w.heap.size w w' → (Instr.loadAt t (.pointer (some (ad.add (j * d.sz))))).run Try.prog w' = .ok (.agg cs.toArray) w' := by
  obtain ⟨h1, _, h3⟩ := h
  obtain ⟨ad, rfl, hc⟩ := h3 (by omega)
  obtain ⟨cs, hl, hK, hcell⟩ := hc j _ (List.getElem?_eq_getElem hj)
  refine ⟨ad, cs, rfl, hK, fun w' hb => ?_⟩
  have hl2 : (loadCells (ad.add (j * d.sz)) cs.length).run Try.prog w' = .ok cs.toArray w' := run_loadCells_list (P := Try.prog) w' _ cs (fun i v hv => by
    have h4 := hcell i v hv
    rw [add_add]
    exact (hb.cell (World.block_lt_of_cell? w _ h4)).trans h4)
  have hagg : (isAgg t).run Try.prog w' = .ok true w' := by
    unfold isAgg
    rw [Sem.run_bind, run_underlying hu w']
    cases D <;> simp_all
  cases hq : Try.prog.info? t with
  | none => simp [hq] at hi
  | some i =>
    have hs : i.size = cs.length := by simp [hq] at hi; omega
    simp [Instr.loadAt, Instr.sureAddr, loadVar, Sem.run_bind, hagg, sizeOf, typeInfo, hq, hs, hl2]
theorem wl_load {P : Program} {ops : Array Oper} {rest : List Oper} {o : Oper} {a : Act} {Q : Exit → Act → World → Prop} {W : World} (t : TypeId) (x : Operand) (ho : o.op = .load t x) (hgd : o.guard = none) (p V : Value) (hx : a.eval x = p) (hld : (Instr.loadAt t p).run P W = .ok V W) (h : wpList P ops Q rest (a.put o.dst V) W) : wpList P ops Q (o :: rest) a W :=
  Kd.event_run hgd (by
    unfold execOp
    rw [ho]
    simp only [hx, Sem.run_bind, hld, Result.andThen_ok]
    rfl) h
theorem R_empty {α : Type} (d : Kd α) (e : Nat) (W : World) (base : Nat) (hb : base ≤ W.heap.size) : d.R e (W.alloc (.cells #[] e)) base (fun _ => True) (.slice (some ⟨W.heap.size, 0, none⟩) 0 0) [] :=
  ⟨fun _ _ => trivial, [], by have h2 := World.ownsRow_lit (base := base) (e := e) (size := d.sz) W #[] 0 hb (by simp [maxLen]) (by simp); simpa using h2, Reps.none _ _⟩
/-- A kind without memory of its own inside. -/
def Flat {α : Type} (d : Kd α) : Prop := ∀ W base ok x cs, d.K W x cs → d.M W base ok x cs
theorem C_none {α : Type} {d : Kd α} {w : World} {n : Nat} {xs : List α} (h : d.C w none n xs) : xs = [] := by
  rcases Nat.eq_zero_or_pos n with h0 | h0
  · have := h.1; exact List.eq_nil_of_length_eq_zero (by omega)
  · obtain ⟨_, e, _⟩ := h.2.2 h0
    cases e
/-! ### slices.IndexFunc, slices.ContainsFunc at type 30 -/
set_option maxRecDepth 100000 in
set_option maxHeartbeats 1000000 in
theorem index30 {α : Type} (d : Kd α) (hd : d.sz = 6) (l : List α) (A : Option Addr) (c : Nat) (w : World) (g : FuncId) (caps : Array Value) (p : α → Bool) (hr : d.C w A l.length l) (hc : l.length ≤ c) (he : ∀ args w, (callFunc g args).run Try.prog w = .ok (.enter g args) w)
    (hf : ∀ x ∈ l, ∀ cs w', Below w.heap.size w w' → d.K w' x cs → Calls Try.prog g (#[.agg cs.toArray] ++ caps) w' fun e w2 => e = .returned (.bool (p x)) ∧ Below w'.heap.size w' w2) :
    Calls Try.prog 38 #[.slice A l.length c, .func (.func g) #[] caps] w fun e w' => e = .returned (.int .i64 (idxOf l p)) ∧ Below w.heap.size w w' := by
  have hln : l.length ≤ 9223372036854775807 := hr.2.1
  have HD := Lib.hid hd
  have HR := Lib.hid hr
  have HF := Lib.hid hf
  have HB0 := Lib.hid (Below.refl w.heap.size w)
  clear hr hf hd
  go_enter Try.func38, Try.ntmps38
  go_wp2
  go_loopw [8] (fun i wr => ∃ j : Nat, j ≤ l.length ∧ i = .int .i64 j ∧ Hid (∀ i (hi : i < j) (hl : i < l.length), p l[i] = false) ∧ Hid (Below w.heap.size w wr)) (fun i _ => l.length - (intOf i).toNat)
  case atStart => exact ⟨0, Nat.zero_le _, rfl, Lib.hid (fun i hi => absurd hi (Nat.not_lt_zero _)), HB0⟩
  case round =>
    obtain ⟨j, hj, rfl, HN, HB⟩ := hrel
    by_cases hlt : j < l.length
    · obtain ⟨ad, cs, e1, hK, hld⟩ := load_mid (t := 30) Try.underlying30 rfl (by rw [HD.out]; kernel_rfl) HR.out j hlt
      rw [HD.out] at hld
      replace hld := hld wr HB.out
      have HK := Lib.hid (d.K_below HB.out hK)
      clear hK
      cases e1
      obtain ⟨V, hV⟩ : ∃ V, V = Value.agg cs.toArray := ⟨_, rfl⟩
      rw [← hV] at hld
      replace hV := Lib.hid hV
      go_wp2_with ((with_reducible refine gate_ (.load 30 (.tmp 14)) rfl ?_); refine wl_load 30 (.tmp 14) rfl rfl _ V rfl hld ?_)
      refine (hV.out ▸ HF.out l[j] (List.getElem_mem hlt) cs wr HB.out HK.out).mono ?_
      rintro e w1 ⟨rfl, hb⟩
      replace HB := Lib.hid (below_then HB.out HB.out.size hb)
      clear hb
      cases hp : p l[j] with
      | true =>
        have HI := Lib.hid (idxOf_at hlt (fun i hi => HN.out i hi (by omega)) hp)
        clear hp
        go_wp2
        go_ret
        exact ⟨by rw [HI.out]; rfl, HB.out⟩
      | false =>
        have HN1 : Hid (∀ i (hi : i < j + 1) (hl : i < l.length), p l[i] = false) := Lib.hid (fun i hi hl => by
          rcases Nat.lt_succ_iff_lt_or_eq.1 hi with h | h
          · exact HN.out i h hl
          · subst h; exact hp)
        clear hp
        go_wp2
        go_roundw
        case rel => exact ⟨j + 1, by omega, by go_num, HN1, HB.out⟩
        case measure => simp [intOf]; omega
    · obtain rfl : j = l.length := by omega
      have HI := Lib.hid (idxOf_none (fun i hi => HN.out i hi hi))
      go_wp2
      go_ret
      exact ⟨by rw [HI.out]; rfl, HB.out⟩

/-! ### slices.Clone at type 2 -/
set_option maxRecDepth 100000 in
set_option maxHeartbeats 1000000 in
theorem clone2 {α : Type} (d : Kd α) (hd : d.sz = 1) (hflat : Flat d) (l : List α) (A : Option Addr) (c : Nat) (w : World) (hr : d.C w A l.length l) (hc : l.length ≤ c) (hb : l.length * 8 ≤ 140737488355328) :
    Calls Try.prog 40 #[.slice A l.length c] w fun e w' => ∃ v0_ : Value, e = .returned v0_ ∧ Kd.R d 2 w' w.heap.size (fun _ => True) v0_ l ∧ Below w.heap.size w w' := by
  cases A with
  | none =>
    obtain rfl := C_none hr
    have hq : ∀ w, (binOp .eql 27 (.slice none 0 c) (.slice none 0 0)).run Try.prog w = .ok (.bool true) w := fun w => by
      rw [Go.Lib.run_eql_slice_nil w 27 2 none 0 c 0 0 Try.underlying27]; rfl
    clear hr hb
    go_enter Try.func40, Try.ntmps40
    go_wp2
    go_ret
    exact ⟨_, rfl, Kd.R_nil _ _ _ _ _, Below.refl _ _⟩
  | some ad =>
    have hq : ∀ w, (binOp .eql 27 (.slice (some ad) l.length c) (.slice none 0 0)).run Try.prog w = .ok (.bool false) w := fun w => by
      rw [Go.Lib.run_eql_slice_nil w 27 2 (some ad) l.length c 0 0 Try.underlying27]; rfl
    have HR := Lib.hid hr
    have HB := Lib.hid hb
    have HD := Lib.hid hd
    have HF := Lib.hid hflat
    have HI : Hid ((Try.prog.info? 2).map (fun i => (i.zero, i.size, i.bytes)) = some (some (.int .i64 0), d.sz, 8)) := Lib.hid (by rw [hd]; kernel_rfl)
    clear hr hb hd hflat
    go_enter Try.func40, Try.ntmps40
    go_wp2_with ((with_reducible refine gate_builtin (b := .append) (xs := #[.tmp 5, .tmp 6]) rfl ?_); at_builtin; refine Kd.R_append_rows d (Rr := d.K w) (w0 := w) w.heap.size rfl (.tmp 5) (.tmp 6) 27 2 (.int .i64 0) 8 rfl Try.underlying27 HI.out (by rw [HD.out]; rfl) (by rw [HD.out]; decide) (by omega) (.slice (some ⟨w.heap.size, 0, none⟩) 0 0) [] l (some ad) l.length c (fun _ => True) (fun _ => False) rfl rfl (R_empty d 2 w w.heap.size (Nat.le_refl _)) ?aR (fun x cs hx => HF.out _ _ _ x cs (d.K_below (below_alloc (Below.refl _ _) _) hx)) (fun _ h => h.elim) (fun _ _ => trivial) (below_alloc (Below.refl _ _) _) (below_alloc (Below.refl _ _) _).size ?aL ?_; (case aR => exact HR.out.imp_ (below_alloc (Below.refl _ _) _) (fun _ _ h => h)); (case aL => have := HB.out; simp only [List.length_nil]; omega); intro v204 w13 ho hb hg hat; have HO := Lib.hid ho; have HB1 := Lib.hid hb; clear ho hb hg hat)
    go_ret
    exact ⟨_, rfl, HO.out, HB1.out⟩

/-! ### slices.Clone at type 9 -/
set_option maxRecDepth 100000 in
set_option maxHeartbeats 1000000 in
theorem clone9 {α : Type} (d : Kd α) (hd : d.sz = 1) (hflat : Flat d) (l : List α) (A : Option Addr) (c : Nat) (w : World) (hr : d.C w A l.length l) (hc : l.length ≤ c) (hb : l.length * 16 ≤ 140737488355328) :
    Calls Try.prog 41 #[.slice A l.length c] w fun e w' => ∃ v0_ : Value, e = .returned v0_ ∧ Kd.R d 9 w' w.heap.size (fun _ => True) v0_ l ∧ Below w.heap.size w w' := by
  cases A with
  | none =>
    obtain rfl := C_none hr
    have hq : ∀ w, (binOp .eql 28 (.slice none 0 c) (.slice none 0 0)).run Try.prog w = .ok (.bool true) w := fun w => by
      rw [Go.Lib.run_eql_slice_nil w 28 9 none 0 c 0 0 Try.underlying28]; rfl
    clear hr hb
    go_enter Try.func41, Try.ntmps41
    go_wp2
    go_ret
    exact ⟨_, rfl, Kd.R_nil _ _ _ _ _, Below.refl _ _⟩
  | some ad =>
    have hq : ∀ w, (binOp .eql 28 (.slice (some ad) l.length c) (.slice none 0 0)).run Try.prog w = .ok (.bool false) w := fun w => by
      rw [Go.Lib.run_eql_slice_nil w 28 9 (some ad) l.length c 0 0 Try.underlying28]; rfl
    have HR := Lib.hid hr
    have HB := Lib.hid hb
    have HD := Lib.hid hd
    have HF := Lib.hid hflat
    have HI : Hid ((Try.prog.info? 9).map (fun i => (i.zero, i.size, i.bytes)) = some (some (.string ⟨#[]⟩), d.sz, 16)) := Lib.hid (by rw [hd]; kernel_rfl)
    clear hr hb hd hflat
    go_enter Try.func41, Try.ntmps41
    go_wp2_with ((with_reducible refine gate_builtin (b := .append) (xs := #[.tmp 5, .tmp 6]) rfl ?_); at_builtin; refine Kd.R_append_rows d (Rr := d.K w) (w0 := w) w.heap.size rfl (.tmp 5) (.tmp 6) 28 9 (.string ⟨#[]⟩) 16 rfl Try.underlying28 HI.out (by rw [HD.out]; rfl) (by rw [HD.out]; decide) (by omega) (.slice (some ⟨w.heap.size, 0, none⟩) 0 0) [] l (some ad) l.length c (fun _ => True) (fun _ => False) rfl rfl (R_empty d 9 w w.heap.size (Nat.le_refl _)) ?aR (fun x cs hx => HF.out _ _ _ x cs (d.K_below (below_alloc (Below.refl _ _) _) hx)) (fun _ h => h.elim) (fun _ _ => trivial) (below_alloc (Below.refl _ _) _) (below_alloc (Below.refl _ _) _).size ?aL ?_; (case aR => exact HR.out.imp_ (below_alloc (Below.refl _ _) _) (fun _ _ h => h)); (case aL => have := HB.out; simp only [List.length_nil]; omega); intro v204 w13 ho hb hg hat; have HO := Lib.hid ho; have HB1 := Lib.hid hb; clear ho hb hg hat)
    go_ret
    exact ⟨_, rfl, HO.out, HB1.out⟩

end Go.Proofs.Ytnhkbjihgepapaa.Gen
