/- The reader, its copy and the document's reader tell the same of pieces, lent or not. (The row.) -/
import Derived.Test.YtajlmjmhkhdmdaaRows
import Derived.Test.YtajlmjmhkhdmdaaFrTells
import Derived.Test.YtajlmjmhkhdmdaaPFOpenFrameTells
import Derived.WalkKit
import Derived.ProofKit
import Derived.OpenShut
import Derived.ShutString
import Derived.ChangeOld
import Derived.Below
import Derived.SizedLaws
import Derived.JoinedCond
import Derived.Deep.CondSized
import Derived.Deep.Slices
import Derived.ChangeSame

namespace Go.Proofs.Ytajlmjmhkhdmdaa.PF
open Go.ChangeShapes Go.WideShapes Go.RowKit Go.Proofs.YtajlmjmhkhdmdaaW.PrintWords Go.Proofs.YtajlmjmhkhdmdaaW.PrintLast Go.Proofs.YtajlmjmhkhdmdaaW.PrintMore
theorem bk_part {H : Type} {d : DataW H} {l : List (DataW H)} (h : d ∈ l) : Rows.uptoBulk d ≤ Rows.uptoBulkAll l := by
  induction l with
  | nil => cases h
  | cons x l ih =>
    rw [Rows.uptoBulkAll]
    rcases List.mem_cons.1 h with e | e
    · rw [e]; omega
    · have := ih e; omega
theorem bk_one {H : Type} (d : DataW H) : 1 ≤ Rows.uptoBulk d := by
  cases d with
  | lit l => cases l <;> simp [Rows.uptoBulk]
  | _ => simp [Rows.uptoBulk]
theorem bk_length {H : Type} (l : List (DataW H)) : l.length ≤ Rows.uptoBulkAll l := by
  induction l with
  | nil => simp [Rows.uptoBulkAll]
  | cons x l ih => rw [Rows.uptoBulkAll, List.length_cons]; have := bk_one x; omega
/-- A row is no longer than its bulk. -/
theorem bk_row {P : Program} {H : Type} {enc : TypeId × Value → H} {w : World} {base : Nat} {spare : Nat → Bool} {held : Bool} {t e : TypeId} (ht : P.underlying t = some (.slice e)) {n : Nat} {a : Option Addr} {len cap : Nat} {y : DataW H × List MemPlace}
    (h : DataW.trod enc P w base spare held n t [.slice a len cap] = some y) : len ≤ Rows.uptoBulk y.1 := by
  rcases Go.Deep.open_slice ht h with ⟨hcs, _⟩ | ⟨a', len', cap', m, n, D, Pl, hcs, _, _, _, _, hx, _⟩
  · simp at hcs
    omega
  · simp at hcs
    obtain ⟨rfl, rfl, rfl⟩ := hcs
    subst hx
    rw [Rows.uptoBulk]
    have h2 := bk_length ((List.range len).map D)
    rw [List.length_map, List.length_range] at h2
    omega
theorem bulk_nest {P : Program} {H : Type} {enc : TypeId × Value → H} {w : World} {base : Nat} {spare : Nat → Bool} {held : Bool} {t e e2 : TypeId} (ht : P.underlying t = some (.slice e)) (hc : P.cellsOf e = 1) (he : P.underlying e = some (.slice e2)) {a : Option Addr} {cap : Nat} {d : DataW H} {ps : List MemPlace} {xs : List (List Int)}
    (h : DataW.Trod enc P w base spare held t (.slice a xs.length cap) d ps) (hC : Kd.C kPs w a xs.length xs) {l : List (DataW H)} (hd : d ∈ l) (hk : Rows.uptoSmall H l = true) : ∀ x ∈ xs, x.length ≤ 1048576 := by
  intro x hx
  have hb : Rows.uptoBulkAll l ≤ 1048576 := of_decide_eq_true hk
  have h1 := bk_part hd
  obtain ⟨i, hi, rfl⟩ := List.getElem_of_mem hx
  obtain ⟨ad, B, cx, rfl, hcell, _, _⟩ := piece_at hC i hi
  obtain ⟨fuel, hf⟩ := h
  rcases Go.Deep.open_slice1 ht hc hf with ⟨hcs, _⟩ | ⟨a', len', cap', m, n, V, D, Pl, hcs, _, _, _, hm, hx', hel⟩
  · simp [Value.cells] at hcs
  · simp [Value.cells] at hcs
    obtain ⟨rfl, rfl, rfl⟩ := hcs
    have him : i < m := by rw [hm]; split <;> omega
    obtain ⟨hv, ht2⟩ := hel i him
    rw [hcell] at hv
    have hv2 := Option.some.inj hv
    rw [← hv2] at ht2
    have h3 := bk_row he ht2
    simp only [Prod.mk.injEq] at hx'
    obtain ⟨rfl, _⟩ := hx'
    rw [Rows.uptoBulk] at h1
    have h4 : Rows.uptoBulk (D i) ≤ Rows.uptoBulkAll ((List.range xs.length).map D) := bk_part (List.mem_map.2 ⟨i, List.mem_range.2 hi, rfl⟩)
    have h5 : (xs[i]).length ≤ Rows.uptoBulk (D i) := h3
    omega
theorem bulk_body {P : Program} {H : Type} {enc : TypeId × Value → H} {w : World} {base : Nat} {spare : Nat → Bool} {held : Bool} {t e : TypeId} {f0 f1 : Field} (ht : P.underlying t = some (.struct #[f0, f1])) (ho : f1.offset = 1) (hc : P.cellsOf f1.type = 1) (he : P.underlying f1.type = some (.slice e)) {v0 : Value} {a : Option Addr} {len cap : Nat} {d : DataW H} {ps : List MemPlace}
    (h : DataW.Trod enc P w base spare held t (.agg ([v0, .slice a len cap] : List Value).toArray) d ps) {l : List (DataW H)} (hd : d ∈ l) (hk : Rows.uptoSmall H l = true) : len ≤ 1048576 := by
  have hb : Rows.uptoBulkAll l ≤ 1048576 := of_decide_eq_true hk
  have h1 := bk_part hd
  obtain ⟨fuel, hf⟩ := h
  obtain ⟨y0, y1, n, hx, hl, hf0, hf1⟩ := Go.ChangeShapes.trod_struct2 ht hf
  rw [ho, hc] at hf1
  have hf2 : DataW.trod enc P w base spare held n f1.type [.slice a len cap] = some y1 := hf1
  have h2 := bk_row he hf2
  simp only [Prod.mk.injEq] at hx
  obtain ⟨rfl, _⟩ := hx
  rw [Rows.uptoBulk] at h1
  have h3 : Rows.uptoBulk y1.1 ≤ Rows.uptoBulkAll [y0.1, y1.1] := bk_part (by simp)
  omega
end Go.Proofs.Ytajlmjmhkhdmdaa.PF

namespace Go.Proofs.Ytajlmjmhkhdmdaa.frameTells
open Go.ChangeShapes Go.WideShapes Go.ChangeAt Go.RowKit Go.Proofs.Ytajlmjmhkhdmdaa.Open Go.Proofs.Ytajlmjmhkhdmdaa.PF.FrameTellsOpen

open Go.ChangeMaps (open_string shut_string)
set_option linter.unusedVariables false
theorem own : ownKnob Try.prog.godebug = none := by kernel_rfl
theorem laidOut : laidOutB Try.prog = true := by kernel_rfl
theorem bulk_part {H : Type} {d : DataW H} {l : List (DataW H)} (h : d ∈ l) : Rows.uptoBulk d ≤ Rows.uptoBulkAll l := by
  induction l with
  | nil => cases h
  | cons x l ih =>
    rw [Rows.uptoBulkAll]
    rcases List.mem_cons.1 h with e | e
    · rw [e]; omega
    · have := ih e; omega
theorem bulk_one {H : Type} (d : DataW H) : 1 ≤ Rows.uptoBulk d := by
  cases d with
  | lit l => cases l <;> simp [Rows.uptoBulk]
  | _ => simp [Rows.uptoBulk]
theorem bulk_length {H : Type} (l : List (DataW H)) : l.length ≤ Rows.uptoBulkAll l := by
  induction l with
  | nil => simp [Rows.uptoBulkAll]
  | cons x l ih => rw [Rows.uptoBulkAll, List.length_cons]; have := bulk_one x; omega
theorem bulk_len {P : Program} {H : Type} {enc : TypeId × Value → H} {w : World} {base : Nat} {spare : Nat → Bool} {held : Bool} {t e : TypeId} (ht : P.underlying t = some (.slice e)) {a : Option Addr} {len cap : Nat} {d : DataW H} {ps : List MemPlace}
    (h : DataW.Trod enc P w base spare held t (.slice a len cap) d ps) {l : List (DataW H)} (hd : d ∈ l) (hk : Rows.uptoSmall H l = true) : len ≤ 1048576 := by
  have hb : Rows.uptoBulkAll l ≤ 1048576 := of_decide_eq_true hk
  have h1 := bulk_part hd
  obtain ⟨fuel, hf⟩ := h
  rcases Go.Deep.open_slice ht hf with ⟨hcs, _⟩ | ⟨a', len', cap', m, n, D, Pl, hcs, _, _, _, _, hx, _⟩
  · simp [Value.cells] at hcs
    omega
  · simp [Value.cells] at hcs
    obtain ⟨rfl, rfl, rfl⟩ := hcs
    simp only [Prod.mk.injEq] at hx
    obtain ⟨rfl, _⟩ := hx
    rw [Rows.uptoBulk] at h1
    have h2 := bulk_length ((List.range len).map D)
    rw [List.length_map, List.length_range] at h2
    omega
theorem bulk_str {H : Type} (s : ByteArray) (l : List (DataW H)) (h : DataW.lit (.string s.data.toList) ∈ l) (hk : Rows.uptoSmall H l = true) : s.size ≤ 1048576 := by
  have hb : Rows.uptoBulkAll l ≤ 1048576 := of_decide_eq_true hk
  have h1 := bulk_part h
  rw [Rows.uptoBulk] at h1
  have e : s.data.toList.length = s.size := by rw [Array.length_toList]; rfl
  omega
set_option maxRecDepth 100000 in
theorem lifted (os : Os) (started : os.Started) (H : Type) (enc : TypeId × Value → H) (F : Stop.Interp) :
    ReturnsInHanded {} Try.checked os 6 .any ((Rows.OpenSpec.upto Rows.frameTellsSpec).pre6 enc Try.prog Try.f6 Rows.frameTellsUptoRow.domain false) (((Rows.OpenSpec.upto Rows.frameTellsSpec).at F).post enc Try.prog Try.f6 false true false false) := by
  refine returnsInHanded_of_cond_sized (C := Try.checked) (s := (Rows.OpenSpec.upto Rows.frameTellsSpec)) (k := Rows.uptoSmall) rfl own started (by kernel_rfl) Try.func6
    (OpenSpec.witness (enc := enc) (C := Try.checked) (s := (Rows.OpenSpec.upto Rows.frameTellsSpec)) (k := Rows.uptoSmall) rfl false ⟨#[], #[.agg #[.int .u8 0, .slice none 0 0], .slice none 0 0], []⟩ 8 (by kernel_rfl) (by kernel_rfl) (by kernel_rfl) (x := ([.agg [.lit (.int .u8 0), .nil], .nil], [], [])) (by kernel_rfl) rfl (by kernel_rfl)) ?_
  intro W base args ds gs before hval0 hW hcnd hk hsz0 _
  have hsz : (DataW.weightsEach Try.prog (Try.f6.params.toList ++ Rows.frameTellsSpec.plain.varTypes Try.prog) (ds ++ gs)).all (· ≤ reachBytes) = true := hsz0
  have hval : ∀ (j : Nat) t v, Try.f6.params[j]? = some t → args[j]? = some v → Value.okWide Try.prog W .any base t v := hval0
  have hW' := hW
  obtain ⟨p, q, hA0, hV, rfl, hfz, hnd⟩ := hW
  have hA : DataW.TrodAll enc Try.prog W 0 (fun _ => true) true Try.f6.params.toList args.toList ds p := hA0
  rw [Try.params6] at hA hval hsz
  obtain ⟨v0, vs0, d0, ds0, p0, q0, hargs, rfl, rfl, h0, r0⟩ := trodAll_cons hA
  obtain ⟨v1, vs1, d1, ds1, p1, q1, rfl, rfl, rfl, h1, r1⟩ := trodAll_cons r0
  obtain ⟨rfl, rfl, rfl⟩ := trodAll_nil r1
  obtain rfl : args = #[v0, v1] := by cases args; simp_all
  obtain ⟨rfl, rfl⟩ := trodVars_none hV
  have k0 := h0
  have lt0 : ∀ x ∈ p0, x.block < W.heap.size := by obtain ⟨m, hm⟩ := k0; exact DataW.trod_lt m _ _ _ hm
  obtain ⟨x0, K0, w0⟩ := Opens.arg o27 hsz (j := 0) rfl rfl h0
  obtain ⟨cs0, rfl, _⟩ := okWide_struct Try.underlying27 (hval 0 27 v0 rfl rfl)
  have KK0 : PF.k27.K W x0 cs0.toList := K0
  obtain ⟨A0_1, c0_1, e0, hc0_1, hr0_1⟩ := PF.k27_open KK0
  obtain rfl : cs0 = ([.int .u8 x0.f0, .slice A0_1 (x0.f1).length c0_1] : List Value).toArray := by rw [← e0]
  have k1 := h1
  have lt1 : ∀ x ∈ p1, x.block < W.heap.size := by obtain ⟨m, hm⟩ := k1; exact DataW.trod_lt m _ _ _ hm
  obtain ⟨x1, K1, w1⟩ := Opens.arg (o_slice Try.underlying34 (by kernel_rfl) 24 (by kernel_rfl) (o_slice Try.underlying22 (by kernel_rfl) 1 (by kernel_rfl) (o_int Try.underlying5 (by kernel_rfl)))) hsz (j := 1) rfl rfl h1
  obtain ⟨a1, len1, cap1, rfl⟩ := okWide_slice Try.underlying34 (hval 1 34 v1 rfl rfl)
  obtain ⟨A1, c1, e1, hc1, hr1⟩ := K1
  simp [Value.cells] at e1
  obtain ⟨rfl, rfl, rfl⟩ := e1
  have u1 := bulk_len Try.underlying34 k1 (by simp) hk
  clear hA0 hval0 hsz0 hsz
  have ub : (x0.f1).length ≤ 1048576 := PF.bulk_body Try.underlying27 rfl (by kernel_rfl) Try.underlying22 k0 (by simp) hk
  have up : ∀ x ∈ x1, x.length ≤ 1048576 := PF.bulk_nest Try.underlying34 (by kernel_rfl) Try.underlying22 k1 hr1 (by simp) hk
  obtain ⟨h1, h2, h3⟩ := w0
  refine (PF.tells_law x0.f0 x0.f1 _ _ _ _ x1 W hr0_1 hc0_1 (Low.wf_u8 h1) (fun z hz => Low.wf_u8 (h3 z hz)) ub hr1 (fun x hx => ⟨fun z hz => Low.wf_u8 ((w1.2 x hx).2 z hz), up x hx⟩)).mono fun e W' ⟨he, bel0⟩ => ?_
  have bel : Below W.heap.size W W' := bel0
  subst he
  exact ⟨_, rfl, _, _, _, [], _, [], hW', trodAll_mk1 (shut_bool Try.underlying4 _), (trodAll_cons_mk (Below.trod laidOut (by kernel_rfl) (of_decide_eq_true (by kernel_rfl)) k0 bel lt0) (trodAll_cons_mk (Below.trod laidOut (by kernel_rfl) (of_decide_eq_true (by kernel_rfl)) k1 bel lt1) trodAll_mk0)), rfl, bel.frame _, fun h => by cases h⟩
theorem over : Rows.frameTellsUptoRow.holds Try.pinned (Rows.OpenSpec.upto Rows.frameTellsSpec) :=
  OpenClaim.holds_of_cond 6 Try.f6 rfl rfl rfl rfl rfl rfl rfl ⟨rfl, rfl, rfl, rfl, rfl⟩ rfl rfl rfl rfl rfl (by kernel_rfl) Try.func6 (by kernel_rfl)
    (of_decide_eq_true (by kernel_rfl)) (by unfold Func.isWrapper; first | (rw [if_pos (by decide +kernel)]; kernel_rfl) | (rw [if_neg (by decide +kernel)]; exact ⟨rfl, rfl⟩))
    (fun os started H enc _ F => lifted os started H enc F)
theorem proved : Rows.FrameTellsUptoSaid := over
#print axioms proved
end Go.Proofs.Ytajlmjmhkhdmdaa.frameTells
namespace Go.Proofs.Ytajlmjmhkhdmdaa
/-- The row, under a short name, for the claim. -/
theorem frameTellsUpto_holds : Rows.FrameTellsUptoSaid := frameTells.proved
end Go.Proofs.Ytajlmjmhkhdmdaa
