/- Contracts of the library's generic functions, at this program's types, whatever the elements' kind. (Written by gen.py.) -/
import Derived.Test.YtcnobkcddgcifaaProg
import Derived.Below
import Derived.Deep.Draws
import Derived.Deep.AppendLies
import Derived.Maps.AppendAt
import Derived.OwnWalk
import Derived.Laws.BytesArg
import Derived.Laws.MakeOwn
import Derived.Laws.OwnMore
import Derived.Deep.OwnRows
import Derived.Tactics
import Derived.Lib.ConvBytes
import Derived.Laws.Slices
import Derived.WalkKit
import Derived.KernelRfl
import Derived.RowKit3
import Derived.Deep.LoopGhost
import Derived.Deep.QuietTactic
import Derived.BigQuiet
import Derived.WideLaws
import Derived.Deep.DeepCutAuto
import Derived.Deep.CutBlock
import Derived.Deep.RegionHeld3
import Derived.Laws.Rows
import Derived.Lib.AppendStr
import Derived.ArgAppend
import Derived.Laws.IdiomCopy
import Derived.OrdersHeld
import Derived.Laws.BitsLemmas
import Derived.RowKit
import Derived.Test.YtcnobkcddgcifaaWWords
import Derived.Test.YtcnobkcddgcifaaWLast
import Derived.Test.YtcnobkcddgcifaaWTab
import Derived.Test.YtcnobkcddgcifaaWQPut
import Derived.Test.YtcnobkcddgcifaaWApart
import Derived.Test.YtcnobkcddgcifaaWArr
import Derived.Test.YtcnobkcddgcifaaWZeros
import Derived.Test.YtcnobkcddgcifaaWFoot
import Derived.Test.YtcnobkcddgcifaaWKept
import Derived.Test.YtcnobkcddgcifaaWShare
import Derived.Test.YtcnobkcddgcifaaWN
import Derived.Test.YtcnobkcddgcifaaWEqStruct
import Derived.Test.YtcnobkcddgcifaaWRepsOne
import Derived.Test.YtcnobkcddgcifaaWGuard
import Derived.Test.YtcnobkcddgcifaaWNEv
import Derived.Test.YtcnobkcddgcifaaWMore
import Derived.Lib.Hide
import Derived.Lib.SliceRun
set_option linter.unusedVariables false
set_option linter.unusedSimpArgs false
namespace Go.Proofs.Ytcnobkcddgcifaa.Gen
open Go.RowKit Go.Proofs.YtcnobkcddgcifaaW.PrintWords Go.Proofs.YtcnobkcddgcifaaW.PrintLast Go.Proofs.YtcnobkcddgcifaaW.PrintMore
/-- The place of the first that it holds of, or -1. -/
def idxOf {α : Type} (l : List α) (p : α → Bool) : Int := if l.any p = true then (l.findIdx p : Int) else -1
theorem idxOf_at {α : Type} {l : List α} {p : α → Bool} {j : Nat} (hj : j < l.length) (h : ∀ i (hi : i < j), p (l[i]'(by omega)) = false) (hp : p l[j] = true) : idxOf l p = j := by
  have : l.any p = true := List.any_eq_true.2 ⟨l[j], List.getElem_mem hj, hp⟩
  unfold idxOf
  rw [if_pos this]
  congr 1
  exact (List.findIdx_eq hj).2 ⟨hp, h⟩
theorem idxOf_none {α : Type} {l : List α} {p : α → Bool} (h : ∀ i (hi : i < l.length), p l[i] = false) : idxOf l p = -1 := by
  unfold idxOf
  rw [if_neg]
  intro ha
  obtain ⟨x, hx, hp⟩ := List.any_eq_true.1 ha
  obtain ⟨i, hi, rfl⟩ := List.mem_iff_getElem.1 hx
  rw [h i hi] at hp
  cases hp
theorem idxOf_ge {α : Type} (l : List α) (p : α → Bool) : decide (idxOf l p ≥ 0) = l.any p := by
  unfold idxOf
  cases l.any p <;> simp
theorem idxOf_some {α : Type} {l : List α} {p : α → Bool} (h : l.any p = true) : ∃ j : Nat, j < l.length ∧ idxOf l p = j := by
  refine ⟨l.findIdx p, List.findIdx_lt_length_of_exists (by simpa using h), ?_⟩
  unfold idxOf
  rw [if_pos h]
theorem new_one (w : World) (v : Value) (t : TypeId) : (w.alloc (.cells #[v] t)).cell? ⟨w.heap.size, 0, none⟩ = some v := by
  have hh := heap_alloc_new w (.cells #[v] t)
  unfold World.cell?
  rw [hh]
  rfl
theorem new_lt (w : World) (o : Obj) : w.heap.size < (w.alloc o).heap.size := by
  show w.heap.size < (w.heap.push o).size
  rw [Array.size_push]
  exact Nat.lt_succ_self _
/-- The element of a row, loaded at once. -/
theorem load_mid {α : Type} {d : Kd α} {t : TypeId} {w : World} {A : Option Addr} {n : Nat} {l : List α} {D : TypeDesc} (hu : Try.prog.underlying t = some D) (hd : D.isRow = true) (hi : (Try.prog.info? t).map (·.size) = some d.sz) (h : Kd.C d w A n l) (j : Nat) (hj : j < l.length) :
    ∃ (ad : Addr) (cs : List Value), A = some ad ∧ d.K w l[j] cs ∧ ∀ w' : World, Below w.heap.size w w' → (Instr.loadAt t (.pointer (some (ad.add (j * d.sz))))).run Try.prog w' = .ok (.agg cs.toArray) w' := by
  obtain ⟨h1, _, h3⟩ := h
  obtain ⟨ad, rfl, hc⟩ := h3 (by omega)
  obtain ⟨cs, hl, hK, hcell⟩ := hc j _ (List.getElem?_eq_getElem hj)
  refine ⟨ad, cs, rfl, hK, fun w' hb => ?_⟩
  have hl2 : (loadCells (ad.add (j * d.sz)) cs.length).run Try.prog w' = .ok cs.toArray w' := run_loadCells_list (P := Try.prog) w' _ cs (fun i v hv => by
    have h4 := hcell i v hv
    rw [add_add]
    exact (hb.cell (World.block_lt_of_cell? w _ h4)).trans h4)
  have hagg : (isAgg t).run Try.prog w' = .ok true w' := by
    unfold isAgg
    rw [Sem.run_bind, run_underlying hu w']
    cases D <;> simp_all
  cases hq : Try.prog.info? t with
  | none => simp [hq] at hi
  | some i =>
    have hs : i.size = cs.length := by simp [hq] at hi; omega
    simp [Instr.loadAt, Instr.sureAddr, loadVar, Sem.run_bind, hagg, sizeOf, typeInfo, hq, hs, hl2]
theorem wl_load {P : Program} {ops : Array Oper} {rest : List Oper} {o : Oper} {a : Act} {Q : Exit → Act → World → Prop} {W : World} (t : TypeId) (x : Operand) (ho : o.op = .load t x) (hgd : o.guard = none) (p V : Value) (hx : a.eval x = p) (hld : (Instr.loadAt t p).run P W = .ok V W) (h : wpList P ops Q rest (a.put o.dst V) W) : wpList P ops Q (o :: rest) a W :=
  Kd.event_run hgd (by
    unfold execOp
    rw [ho]
    simp only [hx, Sem.run_bind, hld, Result.andThen_ok]
    rfl) h
/-- A kind without memory of its own inside. -/
def Flat {α : Type} (d : Kd α) : Prop := ∀ W base ok x cs, d.K W x cs → d.M W base ok x cs
/-! ### slices.IndexFunc, slices.ContainsFunc at type 57 -/
set_option maxRecDepth 100000 in
set_option maxHeartbeats 1000000 in
theorem index57 {α : Type} (d : Kd α) (hd : d.sz = 3) (l : List α) (A : Option Addr) (c : Nat) (w : World) (g : FuncId) (caps : Array Value) (p : α → Bool) (hr : d.C w A l.length l) (hc : l.length ≤ c) (he : ∀ args w, (callFunc g args).run Try.prog w = .ok (.enter g args) w)
    (hf : ∀ x ∈ l, ∀ cs w', Below w.heap.size w w' → d.K w' x cs → Calls Try.prog g (#[.agg cs.toArray] ++ caps) w' fun e w2 => e = .returned (.bool (p x)) ∧ Below w'.heap.size w' w2) :
    Calls Try.prog 68 #[.slice A l.length c, .func (.func g) #[] caps] w fun e w' => e = .returned (.int .i64 (idxOf l p)) ∧ Below w.heap.size w w' := by
  have hln : l.length ≤ 9223372036854775807 := hr.2.1
  have HD := Lib.hid hd
  have HR := Lib.hid hr
  have HF := Lib.hid hf
  have HB0 := Lib.hid (Below.refl w.heap.size w)
  clear hr hf hd
  go_enter Try.func68, Try.ntmps68
  go_wp2
  go_loopw [8] (fun i wr => ∃ j : Nat, j ≤ l.length ∧ i = .int .i64 j ∧ Hid (∀ i (hi : i < j) (hl : i < l.length), p l[i] = false) ∧ Hid (Below w.heap.size w wr)) (fun i _ => l.length - (intOf i).toNat)
  case atStart => exact ⟨0, Nat.zero_le _, rfl, Lib.hid (fun i hi => absurd hi (Nat.not_lt_zero _)), HB0⟩
  case round =>
    obtain ⟨j, hj, rfl, HN, HB⟩ := hrel
    by_cases hlt : j < l.length
    · obtain ⟨ad, cs, e1, hK, hld⟩ := load_mid (t := 57) Try.underlying57 rfl (by rw [HD.out]; kernel_rfl) HR.out j hlt
      rw [HD.out] at hld
      replace hld := hld wr HB.out
      have HK := Lib.hid (d.K_below HB.out hK)
      clear hK
      cases e1
      obtain ⟨V, hV⟩ : ∃ V, V = Value.agg cs.toArray := ⟨_, rfl⟩
      rw [← hV] at hld
      replace hV := Lib.hid hV
      go_wp2_with ((with_reducible refine gate_ (.load 57 (.tmp 14)) rfl ?_); refine wl_load 57 (.tmp 14) rfl rfl _ V rfl hld ?_)
      refine (hV.out ▸ HF.out l[j] (List.getElem_mem hlt) cs wr HB.out HK.out).mono ?_
      rintro e w1 ⟨rfl, hb⟩
      replace HB := Lib.hid (below_then HB.out HB.out.size hb)
      clear hb
      cases hp : p l[j] with
      | true =>
        have HI := Lib.hid (idxOf_at hlt (fun i hi => HN.out i hi (by omega)) hp)
        clear hp
        go_wp2
        go_ret
        exact ⟨by rw [HI.out]; rfl, HB.out⟩
      | false =>
        have HN1 : Hid (∀ i (hi : i < j + 1) (hl : i < l.length), p l[i] = false) := Lib.hid (fun i hi hl => by
          rcases Nat.lt_succ_iff_lt_or_eq.1 hi with h | h
          · exact HN.out i h hl
          · subst h; exact hp)
        clear hp
        go_wp2
        go_roundw
        case rel => exact ⟨j + 1, by omega, by go_num, HN1, HB.out⟩
        case measure => simp [intOf]; omega
    · obtain rfl : j = l.length := by omega
      have HI := Lib.hid (idxOf_none (fun i hi => HN.out i hi hi))
      go_wp2
      go_ret
      exact ⟨by rw [HI.out]; rfl, HB.out⟩

/-! ### slices.IndexFunc, slices.ContainsFunc at type 59 -/
set_option maxRecDepth 100000 in
set_option maxHeartbeats 1000000 in
theorem index59 {α : Type} (d : Kd α) (hd : d.sz = 4) (l : List α) (A : Option Addr) (c : Nat) (w : World) (g : FuncId) (caps : Array Value) (p : α → Bool) (hr : d.C w A l.length l) (hc : l.length ≤ c) (he : ∀ args w, (callFunc g args).run Try.prog w = .ok (.enter g args) w)
    (hf : ∀ x ∈ l, ∀ cs w', Below w.heap.size w w' → d.K w' x cs → Calls Try.prog g (#[.agg cs.toArray] ++ caps) w' fun e w2 => e = .returned (.bool (p x)) ∧ Below w'.heap.size w' w2) :
    Calls Try.prog 56 #[.slice A l.length c, .func (.func g) #[] caps] w fun e w' => e = .returned (.int .i64 (idxOf l p)) ∧ Below w.heap.size w w' := by
  have hln : l.length ≤ 9223372036854775807 := hr.2.1
  have HD := Lib.hid hd
  have HR := Lib.hid hr
  have HF := Lib.hid hf
  have HB0 := Lib.hid (Below.refl w.heap.size w)
  clear hr hf hd
  go_enter Try.func56, Try.ntmps56
  go_wp2
  go_loopw [8] (fun i wr => ∃ j : Nat, j ≤ l.length ∧ i = .int .i64 j ∧ Hid (∀ i (hi : i < j) (hl : i < l.length), p l[i] = false) ∧ Hid (Below w.heap.size w wr)) (fun i _ => l.length - (intOf i).toNat)
  case atStart => exact ⟨0, Nat.zero_le _, rfl, Lib.hid (fun i hi => absurd hi (Nat.not_lt_zero _)), HB0⟩
  case round =>
    obtain ⟨j, hj, rfl, HN, HB⟩ := hrel
    by_cases hlt : j < l.length
    · obtain ⟨ad, cs, e1, hK, hld⟩ := load_mid (t := 59) Try.underlying59 rfl (by rw [HD.out]; kernel_rfl) HR.out j hlt
      rw [HD.out] at hld
      replace hld := hld wr HB.out
      have HK := Lib.hid (d.K_below HB.out hK)
      clear hK
      cases e1
      obtain ⟨V, hV⟩ : ∃ V, V = Value.agg cs.toArray := ⟨_, rfl⟩
      rw [← hV] at hld
      replace hV := Lib.hid hV
      go_wp2_with ((with_reducible refine gate_ (.load 59 (.tmp 14)) rfl ?_); refine wl_load 59 (.tmp 14) rfl rfl _ V rfl hld ?_)
      refine (hV.out ▸ HF.out l[j] (List.getElem_mem hlt) cs wr HB.out HK.out).mono ?_
      rintro e w1 ⟨rfl, hb⟩
      replace HB := Lib.hid (below_then HB.out HB.out.size hb)
      clear hb
      cases hp : p l[j] with
      | true =>
        have HI := Lib.hid (idxOf_at hlt (fun i hi => HN.out i hi (by omega)) hp)
        clear hp
        go_wp2
        go_ret
        exact ⟨by rw [HI.out]; rfl, HB.out⟩
      | false =>
        have HN1 : Hid (∀ i (hi : i < j + 1) (hl : i < l.length), p l[i] = false) := Lib.hid (fun i hi hl => by
          rcases Nat.lt_succ_iff_lt_or_eq.1 hi with h | h
          · exact HN.out i h hl
          · subst h; exact hp)
        clear hp
        go_wp2
        go_roundw
        case rel => exact ⟨j + 1, by omega, by go_num, HN1, HB.out⟩
        case measure => simp [intOf]; omega
    · obtain rfl : j = l.length := by omega
      have HI := Lib.hid (idxOf_none (fun i hi => HN.out i hi hi))
      go_wp2
      go_ret
      exact ⟨by rw [HI.out]; rfl, HB.out⟩

end Go.Proofs.Ytcnobkcddgcifaa.Gen
