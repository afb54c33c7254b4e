/- nodes.Right, some, Up, Able, at: closures and copies. (A part of the print PN: printed texts come before it.) -/
import Derived.Test.YthcikldhlohjbaaPNx0
import Derived.Test.YthcikldhlohjbaaGen
import Derived.Laws.EntriesVeiled
import Derived.Shelf.Abstract
set_option linter.unusedVariables false
set_option linter.unusedSimpArgs false
namespace Go.Proofs.Ythcikldhlohjbaa.PN
open Go.RowKit Go.Proofs.YthcikldhlohjbaaW.PrintWords Go.Proofs.YthcikldhlohjbaaW.PrintLast Go.Proofs.YthcikldhlohjbaaW.PrintMore Go.Proofs.Ythcikldhlohjbaa.Gen
def wrongN (x : S55) : Bool := decide (x.f0 < 1 ∨ 64 < x.f0 ∨ x.f2 < 1 ∨ 1073741824 < x.f2)
def nodesRight (l : List S55) : Bool := decide (1 ≤ l.length ∧ l.length ≤ 32) && !(l.any wrongN)
/-- The set of those places at which p holds, of the first n (below 32). -/
def someSet (l : List S55) (p : Nat → S55 → Bool) : Nat → Int
  | 0 => 0
  | n + 1 => match l[n]? with
    | some x => if n < 32 ∧ p n x = true then Go.bits .or .u32 (someSet l p n) (2 ^ n % 4294967296) else someSet l p n
    | none => someSet l p n
theorem node_val (x : S55) {w : World} {cs : List Value} (h : k55.K w x cs) : cs = [.int .i64 x.f0, .bool x.f1, .int .i64 x.f2] := k55_open h
set_option maxRecDepth 100000 in
theorem wrong_calls (x : S55) (w : World) : Calls Try.prog 83 #[.agg #[.int .i64 x.f0, .bool x.f1, .int .i64 x.f2]] w fun e w' => e = .returned (.bool (wrongN x)) ∧ Below w.heap.size w w' := by
  unfold wrongN
  have HB := Lib.hid (below_alloc (Below.refl _ w) (.cells #[.int .i64 x.f0, .bool x.f1, .int .i64 x.f2] 55))
  by_cases h1 : x.f0 < 1 <;> by_cases h2 : 64 < x.f0 <;> by_cases h3 : x.f2 < 1 <;> by_cases h4 : 1073741824 < x.f2
  all_goals
    first
    | (exfalso; omega)
    | (go_enter Try.func83, Try.ntmps83
       go_wp2
       go_ret
       exact ⟨by simp [h1, h2, h3, h4], HB.out⟩)
set_option maxRecDepth 100000 in
theorem right_calls (l : List S55) (A : Option Addr) (c : Nat) (w : World) (hr : Kd.C k55 w A l.length l) (hc : l.length ≤ c) :
    Calls Try.prog 32 #[.slice A l.length c] w fun e w' => e = .returned (.bool (nodesRight l)) ∧ Below w.heap.size w w' := by
  have he : ∀ args w, (callFunc 83 args).run Try.prog w = .ok (.enter 83 args) w := enters_of Try.func83 (by kernel_rfl) rfl
  have hln : l.length ≤ 9223372036854775807 := hr.2.1
  have H := Lib.hid (fun W (hW : Below w.heap.size w W) => contains55 k55 rfl l A c W 83 #[] wrongN (Kd.C_below hr hW) hc he (fun x _ cs w' _ hK => by
    obtain rfl := node_val x hK
    exact wrong_calls x w'))
  clear hr hc he
  by_cases h1 : 1 ≤ l.length
  · by_cases h2 : l.length ≤ 32
    · have hv : Hid (nodesRight l = !(l.any wrongN)) := Lib.hid (by unfold nodesRight; simp [h1, h2])
      go_enter Try.func32, Try.ntmps32
      go_wp2_with fail
      refine (H.out _ (Below.refl _ _)).mono ?_
      rintro e w1 ⟨rfl, hb⟩
      have HB := Lib.hid hb
      clear hb H
      obtain ⟨t, ht⟩ : ∃ t, t = l.any wrongN := ⟨_, rfl⟩
      rw [← ht] at hv ⊢
      clear ht
      cases t <;>
        · go_wp2
          go_ret
          exact ⟨by rw [hv.out]; rfl, HB.out⟩
    · have hv : Hid (nodesRight l = false) := Lib.hid (by unfold nodesRight; simp [h2])
      go_enter Try.func32, Try.ntmps32
      go_wp2
      go_ret
      exact ⟨by rw [hv.out]; rfl, Below.refl _ _⟩
  · have hv : Hid (nodesRight l = false) := Lib.hid (by unfold nodesRight; simp [h1])
    go_enter Try.func32, Try.ntmps32
    go_wp2
    go_ret
    exact ⟨by rw [hv.out]; rfl, Below.refl _ _⟩
theorem someSet_step (l : List S55) (p : Nat → S55 → Bool) (n : Nat) (hn : n < l.length) : someSet l p (n + 1) = if n < 32 ∧ p n l[n] = true then Go.bits .or .u32 (someSet l p n) (2 ^ n % 4294967296) else someSet l p n := by
  rw [someSet, List.getElem?_eq_getElem hn]
set_option maxRecDepth 100000 in
set_option maxHeartbeats 1000000 in
theorem some_calls (l : List S55) (A : Option Addr) (c : Nat) (w : World) (g : FuncId) (caps : Array Value) (p : Nat → S55 → Bool) (hr : Kd.C k55 w A l.length l) (hc : l.length ≤ c) (he : ∀ args w, (callFunc g args).run Try.prog w = .ok (.enter g args) w)
    (hf : ∀ (j : Nat) (hj : j < l.length) (w' : World), j < 32 → Below w.heap.size w w' → Calls Try.prog g (#[.int .i64 j, .agg #[.int .i64 l[j].f0, .bool l[j].f1, .int .i64 l[j].f2]] ++ caps) w' fun e w2 => e = .returned (.bool (p j l[j])) ∧ Below w'.heap.size w' w2) :
    Calls Try.prog 85 #[.slice A l.length c, .func (.func g) #[] caps] w fun e w' => e = .returned (.int .u32 (someSet l p l.length)) ∧ Below w.heap.size w w' := by
  have hln : l.length ≤ 9223372036854775807 := hr.2.1
  have HR := Lib.hid hr
  have HF := Lib.hid hf
  have HB0 := Lib.hid (Below.refl w.heap.size w)
  clear hr hf
  go_enter Try.func85, Try.ntmps85
  go_wp2
  go_loopw [5, 10] (fun v i wr => ∃ j : Nat, j ≤ l.length ∧ i = .int .i64 j ∧ v = .int .u32 (someSet l p j) ∧ Hid (Below w.heap.size w wr)) (fun _ i _ => l.length - (intOf i).toNat)
  case atStart => exact ⟨0, Nat.zero_le _, rfl, rfl, HB0⟩
  case round =>
    obtain ⟨j, hj, rfl, rfl, HB⟩ := hrel
    obtain ⟨s, hs⟩ : ∃ s, s = someSet l p j := ⟨_, rfl⟩
    rw [← hs]
    replace hs := Lib.hid hs
    by_cases hlt : j < l.length
    · have p1 : 0 ≤ (j : Int) := by omega
      have q1 : (j : Int) < (l.length : Int) := by omega
      obtain ⟨ad, e1, hx0, hx1, hx2⟩ := at_T55 HR.out (j : Int) p1 q1
      cases e1
      replace hx0 := (HB.out.cell (World.block_lt_of_cell? w _ hx0)).trans hx0
      replace hx1 := (HB.out.cell (World.block_lt_of_cell? w _ hx1)).trans hx1
      replace hx2 := (HB.out.cell (World.block_lt_of_cell? w _ hx2)).trans hx2
      rw [Int.toNat_natCast] at hx0 hx1 hx2
      have HE : Hid (rd_T55 l j = l[j]) := Lib.hid (by unfold rd_T55; simp [List.getD, hlt])
      rw [HE.out] at hx0 hx1 hx2
      clear HE
      have HS := Lib.hid (someSet_step l p j hlt)
      by_cases h32 : j < 32
      · go_wp2_with fail
        refine (HF.out j hlt _ h32 (below_alloc HB.out _)).mono ?_
        rintro e w1 ⟨rfl, hb⟩
        replace HB := Lib.hid (below_then (below_alloc HB.out (.cells #[.int .i64 l[j].f0, .bool l[j].f1, .int .i64 l[j].f2] 55)) (below_alloc HB.out (.cells #[.int .i64 l[j].f0, .bool l[j].f1, .int .i64 l[j].f2] 55)).size hb)
        clear hb
        cases hp : p j l[j] with
        | true =>
          have HN : Hid (someSet l p (j + 1) = Go.bits .or .u32 s (2 ^ j % 4294967296)) := Lib.hid (by rw [HS.out, if_pos ⟨h32, hp⟩, hs.out])
          clear hp HS hx0 hx1 hx2
          go_wp2
          go_roundw
          case rel => exact ⟨j + 1, by omega, by go_num, by rw [HN.out], HB.out⟩
          case measure => simp [intOf]; omega
        | false =>
          have HN : Hid (someSet l p (j + 1) = s) := Lib.hid (by rw [HS.out, if_neg (by rw [hp]; simp), hs.out])
          clear hp HS hx0 hx1 hx2
          go_wp2
          go_roundw
          case rel => exact ⟨j + 1, by omega, by go_num, by rw [HN.out], HB.out⟩
          case measure => simp [intOf]; omega
      · have HN : Hid (someSet l p (j + 1) = s) := Lib.hid (by rw [HS.out, if_neg (by omega), hs.out])
        replace HB := Lib.hid (below_alloc HB.out (.cells #[.int .i64 l[j].f0, .bool l[j].f1, .int .i64 l[j].f2] 55))
        clear HS
        go_wp2
        go_roundw
        case rel => exact ⟨j + 1, by omega, by go_num, by rw [HN.out], HB.out⟩
        case measure => simp [intOf]; omega
    · obtain rfl : j = l.length := by omega
      go_wp2
      go_ret
      exact ⟨by rw [← hs.out]; rfl, HB.out⟩
theorem up1_calls (i : Int) (x : S55) (w : World) : Calls Try.prog 86 #[.int .i64 i, .agg #[.int .i64 x.f0, .bool x.f1, .int .i64 x.f2]] w fun e w' => e = .returned (.bool x.f1) ∧ Below w.heap.size w w' := by
  go_enter Try.func86, Try.ntmps86
  go_wp2
  go_ret
  exact ⟨rfl, below_alloc (Below.refl _ _) _⟩
def nodesUp (l : List S55) : Int := someSet l (fun _ x => x.f1) l.length
theorem up_calls (l : List S55) (A : Option Addr) (c : Nat) (w : World) (hr : Kd.C k55 w A l.length l) (hc : l.length ≤ c) :
    Calls Try.prog 39 #[.slice A l.length c] w fun e w' => e = .returned (.int .u32 (nodesUp l)) ∧ Below w.heap.size w w' := by
  have he : ∀ args w, (callFunc 86 args).run Try.prog w = .ok (.enter 86 args) w := enters_of Try.func86 (by kernel_rfl) rfl
  have H := Lib.hid (some_calls l A c w 86 #[] (fun _ x => x.f1) hr hc he (fun j hj w' _ _ => up1_calls j l[j] w'))
  clear hr hc he
  go_enter Try.func39, Try.ntmps39
  go_wp2_with fail
  refine H.out.mono ?_
  rintro e w1 ⟨rfl, hb⟩
  have HB := Lib.hid hb
  clear hb H
  obtain ⟨s, hs⟩ : ∃ s, s = someSet l (fun _ x => x.f1) l.length := ⟨_, rfl⟩
  have HV : Hid (nodesUp l = s) := Lib.hid (by unfold nodesUp; rw [hs])
  rw [← hs]
  clear hs
  go_wp2
  go_ret
  exact ⟨by rw [HV.out]; rfl, HB.out⟩
def able1 (on c : Int) (i : Nat) (x : S55) : Bool := decide (Go.bits .and .u32 (on / 2 ^ min i 32) 1 = 1) && decide (c ≤ x.f0)
set_option maxRecDepth 100000 in
theorem able1_calls (i : Nat) (x : S55) (on c : Int) (b1 b2 : Nat) (w : World) (h1 : w.cell? ⟨b1, 0, none⟩ = some (.int .u32 on)) (h2 : w.cell? ⟨b2, 0, none⟩ = some (.int .i64 c)) :
    Calls Try.prog 88 #[.int .i64 i, .agg #[.int .i64 x.f0, .bool x.f1, .int .i64 x.f2], .pointer (some ⟨b1, 0, none⟩), .pointer (some ⟨b2, 0, none⟩)] w fun e w' => e = .returned (.bool (able1 on c i x)) ∧ Below w.heap.size w w' := by
  have ho1 : ∀ o, (w.alloc o).cell? ⟨b1, 0, none⟩ = some (.int .u32 on) := fun o => ((below_alloc (Below.refl _ w) o).cell (World.block_lt_of_cell? w _ h1)).trans h1
  have ho2 : ∀ o, (w.alloc o).cell? ⟨b2, 0, none⟩ = some (.int .i64 c) := fun o => ((below_alloc (Below.refl _ w) o).cell (World.block_lt_of_cell? w _ h2)).trans h2
  have HB := Lib.hid (below_alloc (Below.refl _ w) (.cells #[.int .i64 x.f0, .bool x.f1, .int .i64 x.f2] 55))
  clear h1 h2
  unfold able1
  by_cases h3 : Go.bits .and .u32 (on / 2 ^ min i 32) 1 = 1 <;> by_cases h4 : c ≤ x.f0
  all_goals
    have H3 := Lib.hid h3
    first | (have q3 : (Go.bits .and .u32 (on / 2 ^ min i 32) 1 == 1) = true := beq_iff_eq.2 h3) | (have q3 : (Go.bits .and .u32 (on / 2 ^ min i 32) 1 == 1) = false := beq_eq_false_iff_ne.2 h3)
    clear h3
    go_enter Try.func88, Try.ntmps88
    go_wp2
    go_ret
    exact ⟨by simp [H3.out, h4], HB.out⟩
def nodesAble (l : List S55) (on c : Int) : Int := someSet l (able1 on c) l.length
set_option maxRecDepth 100000 in
theorem able_calls (l : List S55) (A : Option Addr) (c : Nat) (on n : Int) (w : World) (hr : Kd.C k55 w A l.length l) (hc : l.length ≤ c) :
    Calls Try.prog 44 #[.slice A l.length c, .int .u32 on, .int .i64 n] w fun e w' => e = .returned (.int .u32 (nodesAble l on n)) ∧ Below w.heap.size w w' := by
  have he : ∀ args w, (callFunc 88 args).run Try.prog w = .ok (.enter 88 args) w := enters_of Try.func88 (by kernel_rfl) rfl
  have hmf : ∀ (fn : Fn) (first cap : Array Value) (w : World), (Instr.makeFunc fn first cap).run Try.prog w = .ok (.func fn first cap) w := fun _ _ _ _ => rfl
  have H := Lib.hid (fun (W : World) (hW : Below w.heap.size w W) (b1 b2 : Nat) (h1 : W.cell? ⟨b1, 0, none⟩ = some (.int .u32 on)) (h2 : W.cell? ⟨b2, 0, none⟩ = some (.int .i64 n)) =>
    some_calls l A c W 88 #[.pointer (some ⟨b1, 0, none⟩), .pointer (some ⟨b2, 0, none⟩)] (able1 on n) (Kd.C_below hr hW) hc he (fun j hj w' _ hb => able1_calls j l[j] on n b1 b2 w' ((hb.cell (World.block_lt_of_cell? W _ h1)).trans h1) ((hb.cell (World.block_lt_of_cell? W _ h2)).trans h2)))
  clear hr hc he
  go_enter Try.func44, Try.ntmps44
  go_wp2_with fail
  have hB := below_alloc (below_alloc (Below.refl _ w) (.cells #[.int .u32 on] 41)) (.cells #[.int .i64 n] 3)
  refine (H.out _ hB w.heap.size (w.heap.size + 1) ?_ ?_).mono ?_
  · exact ((below_alloc (Below.refl _ _) _).cell (new_lt w _)).trans (new_one w _ _)
  · have h9 := new_one (w.alloc (.cells #[.int .u32 on] 41)) (.int .i64 n) 3
    have h8 : (w.alloc (.cells #[.int .u32 on] 41)).heap.size = w.heap.size + 1 := Array.size_push ..
    rwa [h8] at h9
  rintro e w1 ⟨rfl, hb⟩
  have HB := Lib.hid (below_then hB hB.size hb)
  clear hb H hB
  obtain ⟨s, hs⟩ : ∃ s, s = someSet l (able1 on n) l.length := ⟨_, rfl⟩
  have HV : Hid (nodesAble l on n = s) := Lib.hid (by unfold nodesAble; rw [hs])
  rw [← hs]
  clear hs
  go_wp2
  go_ret
  exact ⟨by rw [HV.out]; rfl, HB.out⟩
theorem flat55 : Flat k55 := fun W base ok x cs h => by rw [k55_open h]; exact k55_mkM W base ok x
/-- A copy, if there is an i-th one and all may be. -/
def nodesAt (l : List S55) (i : Int) : List S55 × Int := if 0 ≤ i ∧ i < l.length ∧ nodesRight l = true then (l, 0) else ([], 2)
set_option maxRecDepth 100000 in
set_option maxHeartbeats 1000000 in
theorem at_calls (l : List S55) (A : Option Addr) (c : Nat) (i : Int) (w : World) (hr : Kd.C k55 w A l.length l) (hc : l.length ≤ c) :
    Calls Try.prog 82 #[.slice A l.length c, .int .i64 i] w fun e w' => ∃ v0_ : Value, e = .returned (.tuple #[v0_, .int .i64 (nodesAt l i).2]) ∧ Kd.R k55 55 w' w.heap.size (fun _ => True) v0_ (nodesAt l i).1 ∧ Below w.heap.size w w' := by
  have hln : l.length ≤ 9223372036854775807 := hr.2.1
  have H := Lib.hid (right_calls l A c w hr hc)
  have HR := Lib.hid hr
  have HI : Hid ((Try.prog.info? 55).map (fun i => (i.zero, i.size, i.bytes)) = some (some (.agg #[(.int .i64 0), .bool false, (.int .i64 0)]), 3, 24)) := Lib.hid (by kernel_rfl)
  clear hr hc
  by_cases h1 : 0 ≤ i
  · by_cases h2 : i < l.length
    · cases h3 : nodesRight l with
      | true =>
        have hv : Hid (nodesAt l i = (l, 0)) := Lib.hid (by unfold nodesAt; rw [if_pos ⟨h1, h2, h3⟩])
        have h32 : l.length ≤ 32 := by
          unfold nodesRight at h3
          simp only [Bool.and_eq_true, decide_eq_true_eq] at h3
          exact h3.1.2
        rw [h3] at H
        clear h3
        go_enter Try.func82, Try.ntmps82
        go_wp2_with fail
        refine H.out.mono ?_
        rintro e w1 ⟨rfl, hb⟩
        have HB := Lib.hid hb
        clear hb H
        go_wp2_with (first | ((with_reducible refine gate_ (.makeSlice 49 (.tmp 21) (.tmp 21)) rfl ?_); refine Kd.R_make k55 (w0 := w) w.heap.size 55 rfl (N := 22) rfl 49 (.tmp 21) (.tmp 21) rfl (l.length : Int) rfl rfl Try.underlying49 (.agg #[(.int .i64 0), .bool false, (.int .i64 0)]) 24 HI.out rfl (by decide) (by omega) z55 (ok := fun _ => True) (okp := fun _ => True) (k55_mkM _ _ _ z55) (fun _ h => h) trivial (by omega) (by rw [Int.toNat_natCast]; omega) HB.out HB.out.size ?_; intro v1 w2 hR1 hB2 hg2 hat2; rw [Int.toNat_natCast] at hR1; have HO := Lib.hid hR1; have HB2 := Lib.hid hB2; clear hR1 hB2 hg2 hat2) | ((with_reducible refine gate_builtin (b := .copy) (xs := #[.tmp 23, .tmp 24]) rfl ?_); refine R_copy_all k55 flat55 (by decide) (w0 := w) w.heap.size rfl (.tmp 23) (.tmp 24) 49 49 55 rfl Try.underlying49 (by kernel_rfl) v1 (List.replicate l.length z55) l A c (fun _ => True) rfl rfl (List.length_replicate ..) HO.out (Kd.C_below HR.out HB2.out) HB2.out HB2.out.size ?_; intro w3 hR3 hB3 hg3; have HO3 := Lib.hid hR3; have HB3 := Lib.hid hB3; clear hR3 hB3 hg3))
        go_ret2
        exact ⟨_, by rw [hv.out]; rfl, by rw [hv.out]; exact HO3.out, HB3.out⟩
      | false =>
        have hv : Hid (nodesAt l i = ([], 2)) := Lib.hid (by unfold nodesAt; rw [if_neg (by rw [h3]; simp)])
        rw [h3] at H
        clear h3
        go_enter Try.func82, Try.ntmps82
        go_wp2_with fail
        refine H.out.mono ?_
        rintro e w1 ⟨rfl, hb⟩
        have HB := Lib.hid hb
        clear hb H
        go_wp2
        go_ret2
        exact ⟨_, by rw [hv.out]; rfl, by rw [hv.out]; exact Kd.R_nil _ _ _ _ _, HB.out⟩
    · have hv : Hid (nodesAt l i = ([], 2)) := Lib.hid (by unfold nodesAt; rw [if_neg (by omega)])
      go_enter Try.func82, Try.ntmps82
      go_wp2
      go_ret2
      exact ⟨_, by rw [hv.out]; rfl, by rw [hv.out]; exact Kd.R_nil _ _ _ _ _, Below.refl _ _⟩
  · have hv : Hid (nodesAt l i = ([], 2)) := Lib.hid (by unfold nodesAt; rw [if_neg (by omega)])
    go_enter Try.func82, Try.ntmps82
    go_wp2
    go_ret2
    exact ⟨_, by rw [hv.out]; rfl, by rw [hv.out]; exact Kd.R_nil _ _ _ _ _, Below.refl _ _⟩
end Go.Proofs.Ythcikldhlohjbaa.PN
