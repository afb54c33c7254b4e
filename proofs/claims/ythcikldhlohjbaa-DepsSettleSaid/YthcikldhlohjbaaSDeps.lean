/- deps.Holds, deps.Never: closures over job.Find. (A part of the print PD: printed texts come before it.) -/
import Derived.Test.YthcikldhlohjbaaPSx0
import Derived.Lib.Hide
import Derived.Deep.MidRow
set_option linter.unusedVariables false
set_option linter.unusedSimpArgs false
namespace Go.Proofs.Ythcikldhlohjbaa.PS
open Go.RowKit Go.Proofs.YthcikldhlohjbaaW.PrintWords Go.Proofs.YthcikldhlohjbaaW.PrintLast Go.Proofs.YthcikldhlohjbaaW.PrintMore
-- BODY
/-- The place of the first that it holds of, or -1. -/
def idxOf {α : Type} (l : List α) (p : α → Bool) : Int := if l.any p = true then (l.findIdx p : Int) else -1
theorem idxOf_at {α : Type} {l : List α} {p : α → Bool} {j : Nat} (hj : j < l.length) (h : ∀ i (hi : i < j), p (l[i]'(by omega)) = false) (hp : p l[j] = true) : idxOf l p = j := by
  have : l.any p = true := List.any_eq_true.2 ⟨l[j], List.getElem_mem hj, hp⟩
  unfold idxOf
  rw [if_pos this]
  congr 1
  exact (List.findIdx_eq hj).2 ⟨hp, h⟩
theorem idxOf_none {α : Type} {l : List α} {p : α → Bool} (h : ∀ i (hi : i < l.length), p l[i] = false) : idxOf l p = -1 := by
  unfold idxOf
  rw [if_neg]
  intro ha
  obtain ⟨x, hx, hp⟩ := List.any_eq_true.1 ha
  obtain ⟨i, hi, rfl⟩ := List.mem_iff_getElem.1 hx
  rw [h i hi] at hp
  cases hp
theorem idxOf_ge {α : Type} (l : List α) (p : α → Bool) : decide (idxOf l p ≥ 0) = l.any p := by
  unfold idxOf
  cases l.any p <;> simp

set_option maxRecDepth 100000 in
set_option maxHeartbeats 1000000 in
theorem dep_index (l : List S104) (A : Option Addr) (c : Nat) (w : World) (g : FuncId) (caps : Array Value) (p : S104 → Bool) (hr : Kd.C k104 w A l.length l) (hc : l.length ≤ c) (he : ∀ args w, (callFunc g args).run Try.prog w = .ok (.enter g args) w)
    (hf : ∀ x ∈ l, ∀ w', Below w.heap.size w w' → Calls Try.prog g (#[.agg #[.int .u8 x.f0, .int .i64 x.f1]] ++ caps) w' fun e w2 => e = .returned (.bool (p x)) ∧ Below w'.heap.size w' w2) :
    Calls Try.prog 105 #[.slice A l.length c, .func (.func g) #[] caps] w fun e w' => e = .returned (.int .i64 (idxOf l p)) ∧ Below w.heap.size w w' := by
  have hln : l.length ≤ 9223372036854775807 := hr.2.1
  have HR := Lib.hid hr
  have HF := Lib.hid hf
  have HB0 := Lib.hid (Below.refl w.heap.size w)
  clear hr hf
  go_enter Try.func105, Try.ntmps105
  go_wp2
  go_loopw [8] (fun i wr => ∃ j : Nat, j ≤ l.length ∧ i = .int .i64 j ∧ Hid (∀ i (hi : i < j) (hl : i < l.length), p l[i] = false) ∧ Hid (Below w.heap.size w wr)) (fun i _ => l.length - (intOf i).toNat)
  case atStart => exact ⟨0, Nat.zero_le _, rfl, Lib.hid (fun i hi => absurd hi (Nat.not_lt_zero _)), HB0⟩
  case round =>
    obtain ⟨j, hj, rfl, HN, HB⟩ := hrel
    by_cases hlt : j < l.length
    · have p1 : 0 ≤ (j : Int) := by omega
      have q1 : (j : Int) < (l.length : Int) := by omega
      obtain ⟨ad, e1, hx0, hx1⟩ := at_T104 HR.out (j : Int) p1 q1
      cases e1
      replace hx0 := (HB.out.cell (World.block_lt_of_cell? w _ hx0)).trans hx0
      replace hx1 := (HB.out.cell (World.block_lt_of_cell? w _ hx1)).trans hx1
      rw [Int.toNat_natCast] at hx0 hx1
      have HE : Hid (rd_T104 l j = l[j]) := Lib.hid (by unfold rd_T104; simp [List.getD, hlt])
      rw [HE.out] at hx0 hx1
      clear HE
      go_wp2_with fail
      refine (HF.out l[j] (List.getElem_mem hlt) wr HB.out).mono ?_
      rintro e w1 ⟨rfl, hb⟩
      replace HB := Lib.hid (below_then HB.out HB.out.size hb)
      clear hb
      cases hp : p l[j] with
      | true =>
        have HI := Lib.hid (idxOf_at hlt (fun i hi => HN.out i hi (by omega)) hp)
        clear hp
        go_wp2
        go_ret
        exact ⟨by rw [HI.out]; rfl, HB.out⟩
      | false =>
        have HN1 : Hid (∀ i (hi : i < j + 1) (hl : i < l.length), p l[i] = false) := Lib.hid (fun i hi hl => by
          rcases Nat.lt_succ_iff_lt_or_eq.1 hi with h | h
          · exact HN.out i h hl
          · subst h; exact hp)
        clear hp
        go_wp2
        go_roundw
        case rel => exact ⟨j + 1, by omega, by go_num, HN1, HB.out⟩
        case measure => simp [intOf]; omega
    · obtain rfl : j = l.length := by omega
      have HI := Lib.hid (idxOf_none (fun i hi => HN.out i hi hi))
      go_wp2
      go_ret
      exact ⟨by rw [HI.out]; rfl, HB.out⟩

theorem dep_contains (l : List S104) (A : Option Addr) (c : Nat) (w : World) (g : FuncId) (caps : Array Value) (p : S104 → Bool) (hr : Kd.C k104 w A l.length l) (hc : l.length ≤ c) (he : ∀ args w, (callFunc g args).run Try.prog w = .ok (.enter g args) w)
    (hf : ∀ x ∈ l, ∀ w', Below w.heap.size w w' → Calls Try.prog g (#[.agg #[.int .u8 x.f0, .int .i64 x.f1]] ++ caps) w' fun e w2 => e = .returned (.bool (p x)) ∧ Below w'.heap.size w' w2) :
    Calls Try.prog 75 #[.slice A l.length c, .func (.func g) #[] caps] w fun e w' => e = .returned (.bool (l.any p)) ∧ Below w.heap.size w w' := by
  have H := Lib.hid (dep_index l A c w g caps p hr hc he hf)
  clear hr hc he hf
  go_enter Try.func75, Try.ntmps75
  go_wp2_with fail
  refine H.out.mono ?_
  rintro e w1 ⟨rfl, hb⟩
  have HB := Lib.hid hb
  have HG := Lib.hid (idxOf_ge l p)
  clear hb
  obtain ⟨i, hi⟩ : ∃ i, i = idxOf l p := ⟨_, rfl⟩
  rw [← hi] at HG ⊢
  clear hi
  go_wp2
  go_ret
  exact ⟨by rw [← HG.out]; rfl, HB.out⟩

/-- A job's cells. -/
def jobV (x : S43) (B : Option Addr) (e : Nat) : Value := .agg #[.int .i64 x.f0, .int .i64 x.f1, .int .i64 x.f2, .string x.f3.f0, .string x.f3.f1, .string x.f3.f2, .string x.f3.f3, .int .i64 x.f3.f4, .int .i64 x.f3.f5, .int .i64 x.f3.f6, .slice B x.f3.f7.length e, .int .u8 x.f4, .int .i64 x.f5, .int .i64 x.f6, .int .i64 x.f7, .int .u32 x.f8, .int .i64 x.f9]
/-- The element of a row, loaded at once. -/
theorem load_mid {α : Type} {d : Kd α} {t : TypeId} {w : World} {A : Option Addr} {n : Nat} {l : List α} {D : TypeDesc} (hu : Try.prog.underlying t = some D) (hd : D.isRow = true) (hi : (Try.prog.info? t).map (·.size) = some d.sz) (h : Kd.C d w A n l) (j : Nat) (hj : j < l.length) :
    ∃ (ad : Addr) (cs : List Value), A = some ad ∧ d.K w l[j] cs ∧ ∀ w' : World, Below w.heap.size w w' → (Instr.loadAt t (.pointer (some (ad.add (j * d.sz))))).run Try.prog w' = .ok (.agg cs.toArray) w' := by
  obtain ⟨h1, _, h3⟩ := h
  obtain ⟨ad, rfl, hc⟩ := h3 (by omega)
  obtain ⟨cs, hl, hK, hcell⟩ := hc j _ (List.getElem?_eq_getElem hj)
  refine ⟨ad, cs, rfl, hK, fun w' hb => ?_⟩
  have hl2 : (loadCells (ad.add (j * d.sz)) cs.length).run Try.prog w' = .ok cs.toArray w' := run_loadCells_list (P := Try.prog) w' _ cs (fun i v hv => by
    have h4 := hcell i v hv
    rw [add_add]
    exact (hb.cell (World.block_lt_of_cell? w _ h4)).trans h4)
  have hagg : (isAgg t).run Try.prog w' = .ok true w' := by
    unfold isAgg
    rw [Sem.run_bind, run_underlying hu w']
    cases D <;> simp_all
  cases hq : Try.prog.info? t with
  | none => simp [hq] at hi
  | some i =>
    have hs : i.size = cs.length := by simp [hq] at hi; omega
    simp [Instr.loadAt, Instr.sureAddr, loadVar, Sem.run_bind, hagg, sizeOf, typeInfo, hq, hs, hl2]
theorem wl_load {P : Program} {ops : Array Oper} {rest : List Oper} {o : Oper} {a : Act} {Q : Exit → Act → World → Prop} {W : World} (t : TypeId) (x : Operand) (ho : o.op = .load t x) (hgd : o.guard = none) (p V : Value) (hx : a.eval x = p) (hld : (Instr.loadAt t p).run P W = .ok V W) (h : wpList P ops Q rest (a.put o.dst V) W) : wpList P ops Q (o :: rest) a W :=
  Kd.event_run hgd (by
    unfold execOp
    rw [ho]
    simp only [hx, Sem.run_bind, hld, Result.andThen_ok]
    rfl) h
theorem job_load {w : World} {A : Option Addr} {n : Nat} {l : List S43} (h : Kd.C k43 w A n l) (j : Nat) (hj : j < l.length) :
    ∃ (ad B : _) (e : Nat), A = some ad ∧ l[j].f3.f7.length ≤ e ∧ k104.C w B l[j].f3.f7.length l[j].f3.f7 ∧ ∀ w' : World, Below w.heap.size w w' → (Instr.loadAt 43 (.pointer (some (ad.add (j * 17))))).run Try.prog w' = .ok (jobV l[j] B e) w' := by
  obtain ⟨ad, cs, e1, hK, hl⟩ := load_mid (t := 43) Try.underlying43 rfl (by kernel_rfl) h j hj
  obtain ⟨B, e, rfl, h3, h4⟩ := k43_open hK
  exact ⟨ad, B, e, e1, h3, h4, hl⟩
theorem load_T43 {w : World} {A : Option Addr} {n : Nat} {xs : List S43} (h : Kd.C k43 w A n xs) (i : Int) (h0 : 0 ≤ i) (h1 : i < n) :
    ∃ (ad B : _) (e : Nat) (V : Value), A = some ad ∧ V = jobV (rd_T43 xs i) B e ∧ (rd_T43 xs i).f3.f7.length ≤ e ∧ k104.C w B (rd_T43 xs i).f3.f7.length (rd_T43 xs i).f3.f7 ∧ ∀ w' : World, Below w.heap.size w w' → (Instr.loadAt 43 (.pointer (some (ad.add (i.toNat * 17))))).run Try.prog w' = .ok V w' := by
  have hj : i.toNat < xs.length := by have := h.1; omega
  obtain ⟨ad, B, e, e1, h3, h4, hl⟩ := job_load h i.toNat hj
  have HE : rd_T43 xs i = xs[i.toNat] := by unfold rd_T43; simp [List.getD, hj]
  exact ⟨ad, B, e, _, e1, by rw [HE], by rw [HE]; exact h3, by rw [HE]; exact h4, hl⟩
theorem exec_load {P : Program} {o : Oper} {a : Act} {t : TypeId} {x : Operand} {p V : Value} {w' : World} (ho : o.op = .load t x) (hx : a.eval x = p) (hld : (Instr.loadAt t p).run P w' = .ok V w') : (execOp a.eval o).run P w' = .ok (.value V) w' := by
  unfold execOp
  rw [ho]
  simp only [hx, Sem.run_bind, hld, Result.andThen_ok]
  rfl
set_option maxRecDepth 100000 in
set_option maxHeartbeats 4000000 in
theorem job_index (l : List S43) (A : Option Addr) (c : Nat) (w : World) (g : FuncId) (caps : Array Value) (p : S43 → Bool) (hr : Kd.C k43 w A l.length l) (hc : l.length ≤ c) (he : ∀ args w, (callFunc g args).run Try.prog w = .ok (.enter g args) w)
    (hf : ∀ x ∈ l, ∀ B e w', Below w.heap.size w w' → Calls Try.prog g (#[jobV x B e] ++ caps) w' fun e w2 => e = .returned (.bool (p x)) ∧ Below w'.heap.size w' w2) :
    Calls Try.prog 114 #[.slice A l.length c, .func (.func g) #[] caps] w fun e w' => e = .returned (.int .i64 (idxOf l p)) ∧ Below w.heap.size w w' := by
  have hln : l.length ≤ 9223372036854775807 := hr.2.1
  have HR := Lib.hid hr
  have HF := Lib.hid hf
  have HB0 := Lib.hid (Below.refl w.heap.size w)
  clear hr hf
  go_enter Try.func114, Try.ntmps114
  go_wp2
  go_loopw [8] (fun i wr => ∃ j : Nat, j ≤ l.length ∧ i = .int .i64 j ∧ Hid (∀ i (hi : i < j) (hl : i < l.length), p l[i] = false) ∧ Hid (Below w.heap.size w wr)) (fun i _ => l.length - (intOf i).toNat)
  case atStart => exact ⟨0, Nat.zero_le _, rfl, Lib.hid (fun i hi => absurd hi (Nat.not_lt_zero _)), HB0⟩
  case round =>
    obtain ⟨j, hj, rfl, HN, HB⟩ := hrel
    by_cases hlt : j < l.length
    · obtain ⟨ad, B, e, e1, _, _, hld⟩ := job_load HR.out j hlt
      replace hld := hld wr HB.out
      cases e1
      obtain ⟨V, hV⟩ : ∃ V, V = jobV l[j] B e := ⟨_, rfl⟩
      rw [← hV] at hld
      replace hV := Lib.hid hV
      go_wp2_with ((with_reducible refine gate_ (.load 43 (.tmp 14)) rfl ?_); refine wl_load 43 (.tmp 14) rfl rfl _ V rfl hld ?_)
      refine (hV.out ▸ HF.out l[j] (List.getElem_mem hlt) B e wr HB.out).mono ?_
      rintro e w1 ⟨rfl, hb⟩
      replace HB := Lib.hid (below_then HB.out HB.out.size hb)
      clear hb
      cases hp : p l[j] with
      | true =>
        have HI := Lib.hid (idxOf_at hlt (fun i hi => HN.out i hi (by omega)) hp)
        clear hp
        go_wp2
        go_ret
        exact ⟨by rw [HI.out]; rfl, HB.out⟩
      | false =>
        have HN1 : Hid (∀ i (hi : i < j + 1) (hl : i < l.length), p l[i] = false) := Lib.hid (fun i hi hl => by
          rcases Nat.lt_succ_iff_lt_or_eq.1 hi with h | h
          · exact HN.out i h hl
          · subst h; exact hp)
        clear hp
        go_wp2
        go_roundw
        case rel => exact ⟨j + 1, by omega, by go_num, HN1, HB.out⟩
        case measure => simp [intOf]; omega
    · obtain rfl : j = l.length := by omega
      have HI := Lib.hid (idxOf_none (fun i hi => HN.out i hi hi))
      go_wp2
      go_ret
      exact ⟨by rw [HI.out]; rfl, HB.out⟩
theorem new_one (w : World) (v : Value) (t : TypeId) : (w.alloc (.cells #[v] t)).cell? ⟨w.heap.size, 0, none⟩ = some v := by
  have hh := heap_alloc_new w (.cells #[v] t)
  unfold World.cell?
  rw [hh]
  rfl
theorem new_lt (w : World) (o : Obj) : w.heap.size < (w.alloc o).heap.size := by
  show w.heap.size < (w.heap.push o).size
  rw [Array.size_push]
  exact Nat.lt_succ_self _
-- END
end Go.Proofs.Ythcikldhlohjbaa.PS
