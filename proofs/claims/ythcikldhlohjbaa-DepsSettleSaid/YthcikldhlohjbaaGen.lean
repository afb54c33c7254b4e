/- Contracts of the library's generic functions, at this program's types, whatever the elements' kind. (Written by gen.py.) -/
import Derived.Test.YthcikldhlohjbaaProg
import Derived.Below
import Derived.Deep.Draws
import Derived.Deep.AppendLies
import Derived.Maps.AppendAt
import Derived.OwnWalk
import Derived.Laws.BytesArg
import Derived.Laws.MakeOwn
import Derived.Laws.OwnMore
import Derived.Deep.OwnRows
import Derived.Tactics
import Derived.Lib.ConvBytes
import Derived.Laws.Slices
import Derived.WalkKit
import Derived.KernelRfl
import Derived.RowKit3
import Derived.Deep.LoopGhost
import Derived.Deep.QuietTactic
import Derived.BigQuiet
import Derived.WideLaws
import Derived.Deep.DeepCutAuto
import Derived.Deep.CutBlock
import Derived.Deep.RegionHeld3
import Derived.Laws.Rows
import Derived.Lib.AppendStr
import Derived.ArgAppend
import Derived.Laws.IdiomCopy
import Derived.OrdersHeld
import Derived.Laws.BitsLemmas
import Derived.RowKit
import Derived.Test.YthcikldhlohjbaaWWords
import Derived.Test.YthcikldhlohjbaaWLast
import Derived.Test.YthcikldhlohjbaaWTab
import Derived.Test.YthcikldhlohjbaaWFour
import Derived.Test.YthcikldhlohjbaaWQPut
import Derived.Test.YthcikldhlohjbaaWApart
import Derived.Test.YthcikldhlohjbaaWArr
import Derived.Test.YthcikldhlohjbaaWZeros
import Derived.Test.YthcikldhlohjbaaWFoot
import Derived.Test.YthcikldhlohjbaaWKept
import Derived.Test.YthcikldhlohjbaaWShare
import Derived.Test.YthcikldhlohjbaaWN
import Derived.Test.YthcikldhlohjbaaWFootNe
import Derived.Test.YthcikldhlohjbaaWAt
import Derived.Test.YthcikldhlohjbaaWEqStruct
import Derived.Test.YthcikldhlohjbaaWRepsOne
import Derived.Test.YthcikldhlohjbaaWInv
import Derived.Test.YthcikldhlohjbaaWInvWords
import Derived.Test.YthcikldhlohjbaaWGuard
import Derived.Test.YthcikldhlohjbaaWNEv
import Derived.Test.YthcikldhlohjbaaWMore
import Derived.Lib.Hide
import Derived.Lib.SliceRun
set_option linter.unusedVariables false
set_option linter.unusedSimpArgs false
namespace Go.Proofs.Ythcikldhlohjbaa.Gen
open Go.RowKit Go.Proofs.YthcikldhlohjbaaW.PrintWords Go.Proofs.YthcikldhlohjbaaW.PrintLast Go.Proofs.YthcikldhlohjbaaW.PrintMore
/-- The place of the first that it holds of, or -1. -/
def idxOf {α : Type} (l : List α) (p : α → Bool) : Int := if l.any p = true then (l.findIdx p : Int) else -1
theorem idxOf_at {α : Type} {l : List α} {p : α → Bool} {j : Nat} (hj : j < l.length) (h : ∀ i (hi : i < j), p (l[i]'(by omega)) = false) (hp : p l[j] = true) : idxOf l p = j := by
  have : l.any p = true := List.any_eq_true.2 ⟨l[j], List.getElem_mem hj, hp⟩
  unfold idxOf
  rw [if_pos this]
  congr 1
  exact (List.findIdx_eq hj).2 ⟨hp, h⟩
theorem idxOf_none {α : Type} {l : List α} {p : α → Bool} (h : ∀ i (hi : i < l.length), p l[i] = false) : idxOf l p = -1 := by
  unfold idxOf
  rw [if_neg]
  intro ha
  obtain ⟨x, hx, hp⟩ := List.any_eq_true.1 ha
  obtain ⟨i, hi, rfl⟩ := List.mem_iff_getElem.1 hx
  rw [h i hi] at hp
  cases hp
theorem idxOf_ge {α : Type} (l : List α) (p : α → Bool) : decide (idxOf l p ≥ 0) = l.any p := by
  unfold idxOf
  cases l.any p <;> simp
theorem idxOf_some {α : Type} {l : List α} {p : α → Bool} (h : l.any p = true) : ∃ j : Nat, j < l.length ∧ idxOf l p = j := by
  refine ⟨l.findIdx p, List.findIdx_lt_length_of_exists (by simpa using h), ?_⟩
  unfold idxOf
  rw [if_pos h]
theorem new_one (w : World) (v : Value) (t : TypeId) : (w.alloc (.cells #[v] t)).cell? ⟨w.heap.size, 0, none⟩ = some v := by
  have hh := heap_alloc_new w (.cells #[v] t)
  unfold World.cell?
  rw [hh]
  rfl
theorem new_lt (w : World) (o : Obj) : w.heap.size < (w.alloc o).heap.size := by
  show w.heap.size < (w.heap.push o).size
  rw [Array.size_push]
  exact Nat.lt_succ_self _
/-- The element of a row, loaded at once. -/
theorem load_mid {α : Type} {d : Kd α} {t : TypeId} {w : World} {A : Option Addr} {n : Nat} {l : List α} {D : TypeDesc} (hu : Try.prog.underlying t = some D) (hd : D.isRow = true) (hi : (Try.prog.info? t).map (·.size) = some d.sz) (h : Kd.C d w A n l) (j : Nat) (hj : j < l.length) :
    ∃ (ad : Addr) (cs : List Value), A = some ad ∧ d.K w l[j] cs ∧ ∀ w' : World, Below w.heap.size w w' → (Instr.loadAt t (.pointer (some (ad.add (j * d.sz))))).run Try.prog w' = .ok (.agg cs.toArray) w' := by
  obtain ⟨h1, _, h3⟩ := h
  obtain ⟨ad, rfl, hc⟩ := h3 (by omega)
  obtain ⟨cs, hl, hK, hcell⟩ := hc j _ (List.getElem?_eq_getElem hj)
  refine ⟨ad, cs, rfl, hK, fun w' hb => ?_⟩
  have hl2 : (loadCells (ad.add (j * d.sz)) cs.length).run Try.prog w' = .ok cs.toArray w' := run_loadCells_list (P := Try.prog) w' _ cs (fun i v hv => by
    have h4 := hcell i v hv
    rw [add_add]
    exact (hb.cell (World.block_lt_of_cell? w _ h4)).trans h4)
  have hagg : (isAgg t).run Try.prog w' = .ok true w' := by
    unfold isAgg
    rw [Sem.run_bind, run_underlying hu w']
    cases D <;> simp_all
  cases hq : Try.prog.info? t with
  | none => simp [hq] at hi
  | some i =>
    have hs : i.size = cs.length := by simp [hq] at hi; omega
    simp [Instr.loadAt, Instr.sureAddr, loadVar, Sem.run_bind, hagg, sizeOf, typeInfo, hq, hs, hl2]
theorem wl_load {P : Program} {ops : Array Oper} {rest : List Oper} {o : Oper} {a : Act} {Q : Exit → Act → World → Prop} {W : World} (t : TypeId) (x : Operand) (ho : o.op = .load t x) (hgd : o.guard = none) (p V : Value) (hx : a.eval x = p) (hld : (Instr.loadAt t p).run P W = .ok V W) (h : wpList P ops Q rest (a.put o.dst V) W) : wpList P ops Q (o :: rest) a W :=
  Kd.event_run hgd (by
    unfold execOp
    rw [ho]
    simp only [hx, Sem.run_bind, hld, Result.andThen_ok]
    rfl) h
/-- What is known of an element is known where it is read. -/
theorem C_at {α : Type} {d : Kd α} {w : World} {A : Option Addr} {n : Nat} {xs : List α} (h : d.C w A n xs) (j : Nat) (hj : j < xs.length) : ∃ ad c, A = some ad ∧ c.length = d.sz ∧ d.K w xs[j] c ∧ ∀ i u, c[i]? = some u → w.cell? (ad.add (j * d.sz + i)) = some u := by
  obtain ⟨h1, _, h3⟩ := h
  obtain ⟨ad, rfl, hc⟩ := h3 (by omega)
  obtain ⟨cs, hl, hK, hcell⟩ := hc j _ (List.getElem?_eq_getElem hj)
  exact ⟨ad, cs, rfl, hl, hK, hcell⟩
theorem R_empty {α : Type} (d : Kd α) (e : Nat) (W : World) (base : Nat) (hb : base ≤ W.heap.size) : d.R e (W.alloc (.cells #[] e)) base (fun _ => True) (.slice (some ⟨W.heap.size, 0, none⟩) 0 0) [] :=
  ⟨fun _ _ => trivial, [], by have h2 := World.ownsRow_lit (base := base) (e := e) (size := d.sz) W #[] 0 hb (by simp [maxLen]) (by simp); simpa using h2, Reps.none _ _⟩
/-- A kind without memory of its own inside. -/
def Flat {α : Type} (d : Kd α) : Prop := ∀ W base ok x cs, d.K W x cs → d.M W base ok x cs
theorem C_none {α : Type} {d : Kd α} {w : World} {n : Nat} {xs : List α} (h : d.C w none n xs) : xs = [] := by
  rcases Nat.eq_zero_or_pos n with h0 | h0
  · have := h.1; exact List.eq_nil_of_length_eq_zero (by omega)
  · obtain ⟨_, e, _⟩ := h.2.2 h0
    cases e
theorem C_rows {α : Type} {d : Kd α} (hflat : Flat d) {w W : World} {A : Option Addr} {n : Nat} {xs : List α} (h : d.C w A n xs) (hb : Below w.heap.size w W) : d.C W A n xs := Kd.C_below h hb

/-! ### copy(v, ys) of as many elements as v has, of whatever size -/
theorem run_copy_rows {P : Program} (w : World) (dT sT ty elem : TypeId) (sz b o n dCap : Nat) (a : Addr) (sCap : Nat) (cs : List Value)
    (hu : P.underlying dT = some (.slice elem)) (hs : (P.info? elem).map (·.size) = some sz) (hn : cs.length = n * sz)
    (hsrc : ∀ j v, cs[j]? = some v → w.cell? (a.add j) = some v) (hc : ∀ j, j < cs.length → (w.cell? ⟨b, o + j, none⟩).isSome = true) (hf : ∀ j, j < cs.length → w.frozen? ⟨b, o + j, none⟩ = false) (h1 : ∀ v ∈ cs, v.oneCell' = true) :
    (Builtin.copy_ #[dT, sT] ty #[.slice (some ⟨b, o, none⟩) n dCap, .slice (some a) n sCap]).run P w = .ok (goInt n) (w.setCells b o cs) := by
  have hl := run_firstCells_some (P := P) w sz n a n sCap cs hn hsrc
  have hst := run_storeCells_cells (P := P) b o cs 0 w (by simpa using hc) (by simpa using hf) h1
  cases hq : P.info? elem with
  | none => simp [hq] at hs
  | some i =>
    have hi : i.size = sz := by simpa [hq] using hs
    simp [Builtin.copy_, run_underlying hu, Builtin.lenOf, sizeOf, typeInfo, hq, hi, hl, hst]
theorem run_copy_zero {P : Program} (w : World) (dT sT ty elem : TypeId) (sz : Nat) (d a : Option Addr) (dCap sCap : Nat) (hu : P.underlying dT = some (.slice elem)) (hs : (P.info? elem).map (·.size) = some sz) :
    (Builtin.copy_ #[dT, sT] ty #[.slice d 0 dCap, .slice a 0 sCap]).run P w = .ok (goInt 0) w := by
  cases hq : P.info? elem with
  | none => simp [hq] at hs
  | some i =>
    have hl : ∀ (x : Addr), (loadCells x 0).run P w = .ok #[] w := fun x => by simpa using run_loadCells_list (P := P) w x [] (by simp)
    cases d <;> cases a <;> simp [Builtin.copy_, run_underlying hu, Builtin.lenOf, Builtin.firstCells, sizeOf, typeInfo, hq, storeCells, hl]
theorem R_copy_all {P : Program} {ops : Array Oper} {rest : List Oper} {o : Oper} {a : Act} {Q : Exit → Act → World → Prop} {α : Type} (d : Kd α) (hflat : Flat d) (hs0 : 0 < d.sz) {w0 W : World} (base : Nat) (hgd : o.guard = none) (s x : Operand) (t t' e : TypeId)
    (ho : o.op = .call { callee := .builtin .copy, args := #[s, x], argTypes := #[t, t'] }) (ht : P.underlying t = some (.slice e)) (hinfo : (P.info? e).map (·.size) = some d.sz)
    (v : Value) (xs ys : List α) (A : Option Addr) (c : Nat) (ok : Nat → Prop) (hs : a.eval s = v) (hx : a.eval x = .slice A ys.length c) (hl : xs.length = ys.length)
    (HO : d.R e W base ok v xs) (HR : d.C W A ys.length ys) (HB : Below base w0 W) (hbase : base ≤ W.heap.size)
    (h : ∀ w1, d.R e w1 base ok v ys → Below base w0 w1 → W.grownBy w1 v.ownBlock → wpList P ops Q rest (a.put o.dst (.int .i64 ((ys.length : Nat) : Int))) w1) :
    wpList P ops Q (o :: rest) a W := by
  obtain ⟨h0, inner, hown, hr⟩ := HO
  have fin : ∀ w1, (Builtin.copy_ #[t, t'] o.type #[v, .slice A ys.length c]).run P W = .ok (goInt ((ys.length : Nat) : Int)) w1 → d.R e w1 base ok v ys → W.grownBy w1 v.ownBlock → wpList P ops Q (o :: rest) a W := by
    intro w1 hr hrow hg
    refine wpList_plain hgd fun K hK => ?_
    unfold Oper.wp execOp
    simp only [ho, resolve, invoke, builtin, Sem.run_bind, Sem.run_pure, Result.andThen_ok, List.map_toArray, List.map_cons, List.map_nil, hs, hx, hr]
    exact hK _ _ (h w1 hrow (HB.grown hg hbase (own_base hown)) hg)
  rcases Nat.eq_zero_or_pos ys.length with hz | hp
  · obtain rfl : ys = [] := List.eq_nil_of_length_eq_zero hz
    obtain rfl : xs = [] := List.eq_nil_of_length_eq_zero hl
    obtain ⟨A', c', hv⟩ := own_slice hown
    refine fin W ?_ ⟨h0, inner, hown, hr⟩ (World.grownBy.refl W _)
    rw [hv]
    exact run_copy_zero W t t' o.type e d.sz A' A c' c ht hinfo
  · obtain ⟨ad, hA, _⟩ := HR.2.2 hp
    subst hA
    obtain ⟨news, hnr, hnc⟩ := ReadsRow.inner_ HR
    have hone : ∀ u ∈ news, u.oneCell' = true := by
      intro u hu
      obtain ⟨q, hq, rfl⟩ := List.mem_iff_getElem.1 hu
      have hql : q / d.sz < ys.length := by
        rw [Nat.div_lt_iff_lt_mul hs0]
        rw [← hnr.1]
        exact hq
      have hc := hnr.2 (q / d.sz) _ (List.getElem?_eq_getElem hql)
      refine d.K_one hc _ ?_
      rw [List.mem_iff_getElem?]
      refine ⟨q % d.sz, ?_⟩
      rw [List.getElem?_take, if_pos (Nat.mod_lt _ hs0), List.getElem?_drop, Nat.mul_comm, Nat.div_add_mod, List.getElem?_eq_getElem hq]
    rcases hown.2 with ⟨_, hx0⟩ | ⟨g, cap, cur, hv, hb, hh, hnc', hcm, hcs, htake⟩
    · omega
    have hnl : news.length = ys.length * d.sz := hnr.1
    have hfit : news.length ≤ cur.size := by rw [hnl, hcs, ← hl]; exact Nat.mul_le_mul_right _ hnc'
    have hrun := run_copy_rows (P := P) W t t' o.type e d.sz g 0 ys.length cap ad c news ht hinfo hnl hnc
      (fun j hj => by rw [cell_of_row W g _ cur e (0, 0) hh]; simp; omega) (fun j _ => blk_frozen hh _) hone
    obtain ⟨cur', h3, h4, h5⟩ := setCells_row news 0 W cur hh (by omega)
    obtain ⟨s1, s2, s3, s4⟩ := setCells_same g news 0 W
    have hg : W.grownBy (W.setCells g 0 news) v.ownBlock := ⟨s1, s2, s3, by rw [s4]; exact Nat.le_refl _, fun k _ hk => setCells_far _ _ k (fun he => hk (by rw [hv, he]; simp [Value.ownBlock]))⟩
    have hK : Reps (d.K W) d.sz ys news := hnr
    refine fin _ (by rw [hv, hl, hrun]) ⟨h0, news, ?_, hK.imp_ (fun p cs hp => ?_)⟩ hg
    · refine ⟨hnl, .inr ⟨g, cap, cur', by rw [hv, hl], hb, h3, by omega, hcm, by rw [h4, hcs], ?_⟩⟩
      rw [h5, List.take_zero, List.nil_append, Nat.zero_add, List.take_append_of_le_length (by rw [hnl]; exact Nat.le_refl _), ← hnl, List.take_length]
    · have hm := hflat W base (fun k => ok k ∧ some k ≠ v.ownBlock) p cs hp
      exact Kd.M_grown hm hg (fun k hk => hk.2)

/-! ### slices.IndexFunc, slices.ContainsFunc at type 55 -/
set_option maxRecDepth 100000 in
set_option maxHeartbeats 1000000 in
theorem index55 {α : Type} (d : Kd α) (hd : d.sz = 3) (l : List α) (A : Option Addr) (c : Nat) (w : World) (g : FuncId) (caps : Array Value) (p : α → Bool) (hr : d.C w A l.length l) (hc : l.length ≤ c) (he : ∀ args w, (callFunc g args).run Try.prog w = .ok (.enter g args) w)
    (hf : ∀ x ∈ l, ∀ cs w', Below w.heap.size w w' → d.K w' x cs → Calls Try.prog g (#[.agg cs.toArray] ++ caps) w' fun e w2 => e = .returned (.bool (p x)) ∧ Below w'.heap.size w' w2) :
    Calls Try.prog 109 #[.slice A l.length c, .func (.func g) #[] caps] w fun e w' => e = .returned (.int .i64 (idxOf l p)) ∧ Below w.heap.size w w' := by
  have hln : l.length ≤ 9223372036854775807 := hr.2.1
  have HD := Lib.hid hd
  have HR := Lib.hid hr
  have HF := Lib.hid hf
  have HB0 := Lib.hid (Below.refl w.heap.size w)
  clear hr hf hd
  go_enter Try.func109, Try.ntmps109
  go_wp2
  go_loopw [8] (fun i wr => ∃ j : Nat, j ≤ l.length ∧ i = .int .i64 j ∧ Hid (∀ i (hi : i < j) (hl : i < l.length), p l[i] = false) ∧ Hid (Below w.heap.size w wr)) (fun i _ => l.length - (intOf i).toNat)
  case atStart => exact ⟨0, Nat.zero_le _, rfl, Lib.hid (fun i hi => absurd hi (Nat.not_lt_zero _)), HB0⟩
  case round =>
    obtain ⟨j, hj, rfl, HN, HB⟩ := hrel
    by_cases hlt : j < l.length
    · obtain ⟨ad, cs, e1, hK, hld⟩ := load_mid (t := 55) Try.underlying55 rfl (by rw [HD.out]; kernel_rfl) HR.out j hlt
      rw [HD.out] at hld
      replace hld := hld wr HB.out
      have HK := Lib.hid (d.K_below HB.out hK)
      clear hK
      cases e1
      obtain ⟨V, hV⟩ : ∃ V, V = Value.agg cs.toArray := ⟨_, rfl⟩
      rw [← hV] at hld
      replace hV := Lib.hid hV
      go_wp2_with ((with_reducible refine gate_ (.load 55 (.tmp 14)) rfl ?_); refine wl_load 55 (.tmp 14) rfl rfl _ V rfl hld ?_)
      refine (hV.out ▸ HF.out l[j] (List.getElem_mem hlt) cs wr HB.out HK.out).mono ?_
      rintro e w1 ⟨rfl, hb⟩
      replace HB := Lib.hid (below_then HB.out HB.out.size hb)
      clear hb
      cases hp : p l[j] with
      | true =>
        have HI := Lib.hid (idxOf_at hlt (fun i hi => HN.out i hi (by omega)) hp)
        clear hp
        go_wp2
        go_ret
        exact ⟨by rw [HI.out]; rfl, HB.out⟩
      | false =>
        have HN1 : Hid (∀ i (hi : i < j + 1) (hl : i < l.length), p l[i] = false) := Lib.hid (fun i hi hl => by
          rcases Nat.lt_succ_iff_lt_or_eq.1 hi with h | h
          · exact HN.out i h hl
          · subst h; exact hp)
        clear hp
        go_wp2
        go_roundw
        case rel => exact ⟨j + 1, by omega, by go_num, HN1, HB.out⟩
        case measure => simp [intOf]; omega
    · obtain rfl : j = l.length := by omega
      have HI := Lib.hid (idxOf_none (fun i hi => HN.out i hi hi))
      go_wp2
      go_ret
      exact ⟨by rw [HI.out]; rfl, HB.out⟩

theorem contains55 {α : Type} (d : Kd α) (hd : d.sz = 3) (l : List α) (A : Option Addr) (c : Nat) (w : World) (g : FuncId) (caps : Array Value) (p : α → Bool) (hr : d.C w A l.length l) (hc : l.length ≤ c) (he : ∀ args w, (callFunc g args).run Try.prog w = .ok (.enter g args) w)
    (hf : ∀ x ∈ l, ∀ cs w', Below w.heap.size w w' → d.K w' x cs → Calls Try.prog g (#[.agg cs.toArray] ++ caps) w' fun e w2 => e = .returned (.bool (p x)) ∧ Below w'.heap.size w' w2) :
    Calls Try.prog 84 #[.slice A l.length c, .func (.func g) #[] caps] w fun e w' => e = .returned (.bool (l.any p)) ∧ Below w.heap.size w w' := by
  have H := Lib.hid (index55 d hd l A c w g caps p hr hc he hf)
  clear hr hc he hf hd
  go_enter Try.func84, Try.ntmps84
  go_wp2_with fail
  refine H.out.mono ?_
  rintro e w1 ⟨rfl, hb⟩
  have HB := Lib.hid hb
  have HG := Lib.hid (idxOf_ge l p)
  clear hb
  obtain ⟨i, hi⟩ : ∃ i, i = idxOf l p := ⟨_, rfl⟩
  rw [← hi] at HG ⊢
  clear hi
  go_wp2
  go_ret
  exact ⟨by rw [← HG.out]; rfl, HB.out⟩

/-! ### slices.IndexFunc, slices.ContainsFunc at type 94 -/
set_option maxRecDepth 100000 in
set_option maxHeartbeats 1000000 in
theorem index94 {α : Type} (d : Kd α) (hd : d.sz = 3) (l : List α) (A : Option Addr) (c : Nat) (w : World) (g : FuncId) (caps : Array Value) (p : α → Bool) (hr : d.C w A l.length l) (hc : l.length ≤ c) (he : ∀ args w, (callFunc g args).run Try.prog w = .ok (.enter g args) w)
    (hf : ∀ x ∈ l, ∀ cs w', Below w.heap.size w w' → d.K w' x cs → Calls Try.prog g (#[.agg cs.toArray] ++ caps) w' fun e w2 => e = .returned (.bool (p x)) ∧ Below w'.heap.size w' w2) :
    Calls Try.prog 112 #[.slice A l.length c, .func (.func g) #[] caps] w fun e w' => e = .returned (.int .i64 (idxOf l p)) ∧ Below w.heap.size w w' := by
  have hln : l.length ≤ 9223372036854775807 := hr.2.1
  have HD := Lib.hid hd
  have HR := Lib.hid hr
  have HF := Lib.hid hf
  have HB0 := Lib.hid (Below.refl w.heap.size w)
  clear hr hf hd
  go_enter Try.func112, Try.ntmps112
  go_wp2
  go_loopw [8] (fun i wr => ∃ j : Nat, j ≤ l.length ∧ i = .int .i64 j ∧ Hid (∀ i (hi : i < j) (hl : i < l.length), p l[i] = false) ∧ Hid (Below w.heap.size w wr)) (fun i _ => l.length - (intOf i).toNat)
  case atStart => exact ⟨0, Nat.zero_le _, rfl, Lib.hid (fun i hi => absurd hi (Nat.not_lt_zero _)), HB0⟩
  case round =>
    obtain ⟨j, hj, rfl, HN, HB⟩ := hrel
    by_cases hlt : j < l.length
    · obtain ⟨ad, cs, e1, hK, hld⟩ := load_mid (t := 94) Try.underlying94 rfl (by rw [HD.out]; kernel_rfl) HR.out j hlt
      rw [HD.out] at hld
      replace hld := hld wr HB.out
      have HK := Lib.hid (d.K_below HB.out hK)
      clear hK
      cases e1
      obtain ⟨V, hV⟩ : ∃ V, V = Value.agg cs.toArray := ⟨_, rfl⟩
      rw [← hV] at hld
      replace hV := Lib.hid hV
      go_wp2_with ((with_reducible refine gate_ (.load 94 (.tmp 14)) rfl ?_); refine wl_load 94 (.tmp 14) rfl rfl _ V rfl hld ?_)
      refine (hV.out ▸ HF.out l[j] (List.getElem_mem hlt) cs wr HB.out HK.out).mono ?_
      rintro e w1 ⟨rfl, hb⟩
      replace HB := Lib.hid (below_then HB.out HB.out.size hb)
      clear hb
      cases hp : p l[j] with
      | true =>
        have HI := Lib.hid (idxOf_at hlt (fun i hi => HN.out i hi (by omega)) hp)
        clear hp
        go_wp2
        go_ret
        exact ⟨by rw [HI.out]; rfl, HB.out⟩
      | false =>
        have HN1 : Hid (∀ i (hi : i < j + 1) (hl : i < l.length), p l[i] = false) := Lib.hid (fun i hi hl => by
          rcases Nat.lt_succ_iff_lt_or_eq.1 hi with h | h
          · exact HN.out i h hl
          · subst h; exact hp)
        clear hp
        go_wp2
        go_roundw
        case rel => exact ⟨j + 1, by omega, by go_num, HN1, HB.out⟩
        case measure => simp [intOf]; omega
    · obtain rfl : j = l.length := by omega
      have HI := Lib.hid (idxOf_none (fun i hi => HN.out i hi hi))
      go_wp2
      go_ret
      exact ⟨by rw [HI.out]; rfl, HB.out⟩

/-! ### slices.IndexFunc, slices.ContainsFunc at type 104 -/
set_option maxRecDepth 100000 in
set_option maxHeartbeats 1000000 in
theorem index104 {α : Type} (d : Kd α) (hd : d.sz = 2) (l : List α) (A : Option Addr) (c : Nat) (w : World) (g : FuncId) (caps : Array Value) (p : α → Bool) (hr : d.C w A l.length l) (hc : l.length ≤ c) (he : ∀ args w, (callFunc g args).run Try.prog w = .ok (.enter g args) w)
    (hf : ∀ x ∈ l, ∀ cs w', Below w.heap.size w w' → d.K w' x cs → Calls Try.prog g (#[.agg cs.toArray] ++ caps) w' fun e w2 => e = .returned (.bool (p x)) ∧ Below w'.heap.size w' w2) :
    Calls Try.prog 105 #[.slice A l.length c, .func (.func g) #[] caps] w fun e w' => e = .returned (.int .i64 (idxOf l p)) ∧ Below w.heap.size w w' := by
  have hln : l.length ≤ 9223372036854775807 := hr.2.1
  have HD := Lib.hid hd
  have HR := Lib.hid hr
  have HF := Lib.hid hf
  have HB0 := Lib.hid (Below.refl w.heap.size w)
  clear hr hf hd
  go_enter Try.func105, Try.ntmps105
  go_wp2
  go_loopw [8] (fun i wr => ∃ j : Nat, j ≤ l.length ∧ i = .int .i64 j ∧ Hid (∀ i (hi : i < j) (hl : i < l.length), p l[i] = false) ∧ Hid (Below w.heap.size w wr)) (fun i _ => l.length - (intOf i).toNat)
  case atStart => exact ⟨0, Nat.zero_le _, rfl, Lib.hid (fun i hi => absurd hi (Nat.not_lt_zero _)), HB0⟩
  case round =>
    obtain ⟨j, hj, rfl, HN, HB⟩ := hrel
    by_cases hlt : j < l.length
    · obtain ⟨ad, cs, e1, hK, hld⟩ := load_mid (t := 104) Try.underlying104 rfl (by rw [HD.out]; kernel_rfl) HR.out j hlt
      rw [HD.out] at hld
      replace hld := hld wr HB.out
      have HK := Lib.hid (d.K_below HB.out hK)
      clear hK
      cases e1
      obtain ⟨V, hV⟩ : ∃ V, V = Value.agg cs.toArray := ⟨_, rfl⟩
      rw [← hV] at hld
      replace hV := Lib.hid hV
      go_wp2_with ((with_reducible refine gate_ (.load 104 (.tmp 14)) rfl ?_); refine wl_load 104 (.tmp 14) rfl rfl _ V rfl hld ?_)
      refine (hV.out ▸ HF.out l[j] (List.getElem_mem hlt) cs wr HB.out HK.out).mono ?_
      rintro e w1 ⟨rfl, hb⟩
      replace HB := Lib.hid (below_then HB.out HB.out.size hb)
      clear hb
      cases hp : p l[j] with
      | true =>
        have HI := Lib.hid (idxOf_at hlt (fun i hi => HN.out i hi (by omega)) hp)
        clear hp
        go_wp2
        go_ret
        exact ⟨by rw [HI.out]; rfl, HB.out⟩
      | false =>
        have HN1 : Hid (∀ i (hi : i < j + 1) (hl : i < l.length), p l[i] = false) := Lib.hid (fun i hi hl => by
          rcases Nat.lt_succ_iff_lt_or_eq.1 hi with h | h
          · exact HN.out i h hl
          · subst h; exact hp)
        clear hp
        go_wp2
        go_roundw
        case rel => exact ⟨j + 1, by omega, by go_num, HN1, HB.out⟩
        case measure => simp [intOf]; omega
    · obtain rfl : j = l.length := by omega
      have HI := Lib.hid (idxOf_none (fun i hi => HN.out i hi hi))
      go_wp2
      go_ret
      exact ⟨by rw [HI.out]; rfl, HB.out⟩

theorem contains104 {α : Type} (d : Kd α) (hd : d.sz = 2) (l : List α) (A : Option Addr) (c : Nat) (w : World) (g : FuncId) (caps : Array Value) (p : α → Bool) (hr : d.C w A l.length l) (hc : l.length ≤ c) (he : ∀ args w, (callFunc g args).run Try.prog w = .ok (.enter g args) w)
    (hf : ∀ x ∈ l, ∀ cs w', Below w.heap.size w w' → d.K w' x cs → Calls Try.prog g (#[.agg cs.toArray] ++ caps) w' fun e w2 => e = .returned (.bool (p x)) ∧ Below w'.heap.size w' w2) :
    Calls Try.prog 75 #[.slice A l.length c, .func (.func g) #[] caps] w fun e w' => e = .returned (.bool (l.any p)) ∧ Below w.heap.size w w' := by
  have H := Lib.hid (index104 d hd l A c w g caps p hr hc he hf)
  clear hr hc he hf hd
  go_enter Try.func75, Try.ntmps75
  go_wp2_with fail
  refine H.out.mono ?_
  rintro e w1 ⟨rfl, hb⟩
  have HB := Lib.hid hb
  have HG := Lib.hid (idxOf_ge l p)
  clear hb
  obtain ⟨i, hi⟩ : ∃ i, i = idxOf l p := ⟨_, rfl⟩
  rw [← hi] at HG ⊢
  clear hi
  go_wp2
  go_ret
  exact ⟨by rw [← HG.out]; rfl, HB.out⟩

/-! ### slices.IndexFunc, slices.ContainsFunc at type 43 -/
set_option maxRecDepth 100000 in
set_option maxHeartbeats 1000000 in
theorem index43 {α : Type} (d : Kd α) (hd : d.sz = 17) (l : List α) (A : Option Addr) (c : Nat) (w : World) (g : FuncId) (caps : Array Value) (p : α → Bool) (hr : d.C w A l.length l) (hc : l.length ≤ c) (he : ∀ args w, (callFunc g args).run Try.prog w = .ok (.enter g args) w)
    (hf : ∀ x ∈ l, ∀ cs w', Below w.heap.size w w' → d.K w' x cs → Calls Try.prog g (#[.agg cs.toArray] ++ caps) w' fun e w2 => e = .returned (.bool (p x)) ∧ Below w'.heap.size w' w2) :
    Calls Try.prog 114 #[.slice A l.length c, .func (.func g) #[] caps] w fun e w' => e = .returned (.int .i64 (idxOf l p)) ∧ Below w.heap.size w w' := by
  have hln : l.length ≤ 9223372036854775807 := hr.2.1
  have HD := Lib.hid hd
  have HR := Lib.hid hr
  have HF := Lib.hid hf
  have HB0 := Lib.hid (Below.refl w.heap.size w)
  clear hr hf hd
  go_enter Try.func114, Try.ntmps114
  go_wp2
  go_loopw [8] (fun i wr => ∃ j : Nat, j ≤ l.length ∧ i = .int .i64 j ∧ Hid (∀ i (hi : i < j) (hl : i < l.length), p l[i] = false) ∧ Hid (Below w.heap.size w wr)) (fun i _ => l.length - (intOf i).toNat)
  case atStart => exact ⟨0, Nat.zero_le _, rfl, Lib.hid (fun i hi => absurd hi (Nat.not_lt_zero _)), HB0⟩
  case round =>
    obtain ⟨j, hj, rfl, HN, HB⟩ := hrel
    by_cases hlt : j < l.length
    · obtain ⟨ad, cs, e1, hK, hld⟩ := load_mid (t := 43) Try.underlying43 rfl (by rw [HD.out]; kernel_rfl) HR.out j hlt
      rw [HD.out] at hld
      replace hld := hld wr HB.out
      have HK := Lib.hid (d.K_below HB.out hK)
      clear hK
      cases e1
      obtain ⟨V, hV⟩ : ∃ V, V = Value.agg cs.toArray := ⟨_, rfl⟩
      rw [← hV] at hld
      replace hV := Lib.hid hV
      go_wp2_with ((with_reducible refine gate_ (.load 43 (.tmp 14)) rfl ?_); refine wl_load 43 (.tmp 14) rfl rfl _ V rfl hld ?_)
      refine (hV.out ▸ HF.out l[j] (List.getElem_mem hlt) cs wr HB.out HK.out).mono ?_
      rintro e w1 ⟨rfl, hb⟩
      replace HB := Lib.hid (below_then HB.out HB.out.size hb)
      clear hb
      cases hp : p l[j] with
      | true =>
        have HI := Lib.hid (idxOf_at hlt (fun i hi => HN.out i hi (by omega)) hp)
        clear hp
        go_wp2
        go_ret
        exact ⟨by rw [HI.out]; rfl, HB.out⟩
      | false =>
        have HN1 : Hid (∀ i (hi : i < j + 1) (hl : i < l.length), p l[i] = false) := Lib.hid (fun i hi hl => by
          rcases Nat.lt_succ_iff_lt_or_eq.1 hi with h | h
          · exact HN.out i h hl
          · subst h; exact hp)
        clear hp
        go_wp2
        go_roundw
        case rel => exact ⟨j + 1, by omega, by go_num, HN1, HB.out⟩
        case measure => simp [intOf]; omega
    · obtain rfl : j = l.length := by omega
      have HI := Lib.hid (idxOf_none (fun i hi => HN.out i hi hi))
      go_wp2
      go_ret
      exact ⟨by rw [HI.out]; rfl, HB.out⟩

/-! ### slices.Clone at type 104 -/
set_option maxRecDepth 100000 in
set_option maxHeartbeats 1000000 in
theorem clone104 {α : Type} (d : Kd α) (hd : d.sz = 2) (hflat : Flat d) (l : List α) (A : Option Addr) (c : Nat) (w : World) (hr : d.C w A l.length l) (hc : l.length ≤ c) (hb : l.length * 16 ≤ 140737488355328) :
    Calls Try.prog 81 #[.slice A l.length c] w fun e w' => ∃ v0_ : Value, e = .returned v0_ ∧ Kd.R d 104 w' w.heap.size (fun _ => True) v0_ l ∧ Below w.heap.size w w' := by
  cases A with
  | none =>
    obtain rfl := C_none hr
    have hq : ∀ w, (binOp .eql 22 (.slice none 0 c) (.slice none 0 0)).run Try.prog w = .ok (.bool true) w := fun w => by
      rw [Go.Lib.run_eql_slice_nil w 22 104 none 0 c 0 0 Try.underlying22]; rfl
    clear hr hb
    go_enter Try.func81, Try.ntmps81
    go_wp2
    go_ret
    exact ⟨_, rfl, Kd.R_nil _ _ _ _ _, Below.refl _ _⟩
  | some ad =>
    have hq : ∀ w, (binOp .eql 22 (.slice (some ad) l.length c) (.slice none 0 0)).run Try.prog w = .ok (.bool false) w := fun w => by
      rw [Go.Lib.run_eql_slice_nil w 22 104 (some ad) l.length c 0 0 Try.underlying22]; rfl
    have HR := Lib.hid hr
    have HB := Lib.hid hb
    have HD := Lib.hid hd
    have HF := Lib.hid hflat
    have HI : Hid ((Try.prog.info? 104).map (fun i => (i.zero, i.size, i.bytes)) = some (some (.agg #[(.int .u8 0), (.int .i64 0)]), d.sz, 16)) := Lib.hid (by rw [hd]; kernel_rfl)
    clear hr hb hd hflat
    go_enter Try.func81, Try.ntmps81
    go_wp2_with ((with_reducible refine gate_builtin (b := .append) (xs := #[.tmp 5, .tmp 6]) rfl ?_); at_builtin; refine Kd.R_append_rows d (Rr := d.K w) (w0 := w) w.heap.size rfl (.tmp 5) (.tmp 6) 22 104 (.agg #[(.int .u8 0), (.int .i64 0)]) 16 rfl Try.underlying22 HI.out (by rw [HD.out]; rfl) (by rw [HD.out]; decide) (by omega) (.slice (some ⟨w.heap.size, 0, none⟩) 0 0) [] l (some ad) l.length c (fun _ => True) (fun _ => False) rfl rfl (R_empty d 104 w w.heap.size (Nat.le_refl _)) ?aR (fun x cs hx => HF.out _ _ _ x cs (d.K_below (below_alloc (Below.refl _ _) _) hx)) (fun _ h => h.elim) (fun _ _ => trivial) (below_alloc (Below.refl _ _) _) (below_alloc (Below.refl _ _) _).size ?aL ?_; (case aR => exact HR.out.imp_ (below_alloc (Below.refl _ _) _) (fun _ _ h => h)); (case aL => have := HB.out; simp only [List.length_nil]; omega); intro v204 w13 ho hb hg hat; have HO := Lib.hid ho; have HB1 := Lib.hid hb; clear ho hb hg hat)
    go_ret
    exact ⟨_, rfl, HO.out, HB1.out⟩

/-! ### slices.Clone at type 94 -/
set_option maxRecDepth 100000 in
set_option maxHeartbeats 1000000 in
theorem clone94 {α : Type} (d : Kd α) (hd : d.sz = 3) (hflat : Flat d) (l : List α) (A : Option Addr) (c : Nat) (w : World) (hr : d.C w A l.length l) (hc : l.length ≤ c) (hb : l.length * 40 ≤ 140737488355328) :
    Calls Try.prog 96 #[.slice A l.length c] w fun e w' => ∃ v0_ : Value, e = .returned v0_ ∧ Kd.R d 94 w' w.heap.size (fun _ => True) v0_ l ∧ Below w.heap.size w w' := by
  cases A with
  | none =>
    obtain rfl := C_none hr
    have hq : ∀ w, (binOp .eql 80 (.slice none 0 c) (.slice none 0 0)).run Try.prog w = .ok (.bool true) w := fun w => by
      rw [Go.Lib.run_eql_slice_nil w 80 94 none 0 c 0 0 Try.underlying80]; rfl
    clear hr hb
    go_enter Try.func96, Try.ntmps96
    go_wp2
    go_ret
    exact ⟨_, rfl, Kd.R_nil _ _ _ _ _, Below.refl _ _⟩
  | some ad =>
    have hq : ∀ w, (binOp .eql 80 (.slice (some ad) l.length c) (.slice none 0 0)).run Try.prog w = .ok (.bool false) w := fun w => by
      rw [Go.Lib.run_eql_slice_nil w 80 94 (some ad) l.length c 0 0 Try.underlying80]; rfl
    have HR := Lib.hid hr
    have HB := Lib.hid hb
    have HD := Lib.hid hd
    have HF := Lib.hid hflat
    have HI : Hid ((Try.prog.info? 94).map (fun i => (i.zero, i.size, i.bytes)) = some (some (.agg #[(.string ⟨#[]⟩), (.string ⟨#[]⟩), (.int .i64 0)]), d.sz, 40)) := Lib.hid (by rw [hd]; kernel_rfl)
    clear hr hb hd hflat
    go_enter Try.func96, Try.ntmps96
    go_wp2_with ((with_reducible refine gate_builtin (b := .append) (xs := #[.tmp 5, .tmp 6]) rfl ?_); at_builtin; refine Kd.R_append_rows d (Rr := d.K w) (w0 := w) w.heap.size rfl (.tmp 5) (.tmp 6) 80 94 (.agg #[(.string ⟨#[]⟩), (.string ⟨#[]⟩), (.int .i64 0)]) 40 rfl Try.underlying80 HI.out (by rw [HD.out]; rfl) (by rw [HD.out]; decide) (by omega) (.slice (some ⟨w.heap.size, 0, none⟩) 0 0) [] l (some ad) l.length c (fun _ => True) (fun _ => False) rfl rfl (R_empty d 94 w w.heap.size (Nat.le_refl _)) ?aR (fun x cs hx => HF.out _ _ _ x cs (d.K_below (below_alloc (Below.refl _ _) _) hx)) (fun _ h => h.elim) (fun _ _ => trivial) (below_alloc (Below.refl _ _) _) (below_alloc (Below.refl _ _) _).size ?aL ?_; (case aR => exact HR.out.imp_ (below_alloc (Below.refl _ _) _) (fun _ _ h => h)); (case aL => have := HB.out; simp only [List.length_nil]; omega); intro v204 w13 ho hb hg hat; have HO := Lib.hid ho; have HB1 := Lib.hid hb; clear ho hb hg hat)
    go_ret
    exact ⟨_, rfl, HO.out, HB1.out⟩

end Go.Proofs.Ythcikldhlohjbaa.Gen
