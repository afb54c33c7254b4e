/- tree.Name, tree.Find: closures through the library. (A part of the print PT: printed texts come before it.) -/
import Derived.Test.YtcnobkcddgcifaaPTx0
import Derived.Test.YtcnobkcddgcifaaGen
import Derived.Laws.EntriesVeiled
import Derived.Shelf.Abstract
import Derived.Lib.OthersKept
import Derived.Lib.TrimU
set_option linter.unusedVariables false
set_option linter.unusedSimpArgs false
namespace Go.Proofs.Ytcnobkcddgcifaa.PT
open Go.RowKit Go.Proofs.YtcnobkcddgcifaaW.PrintWords Go.Proofs.YtcnobkcddgcifaaW.PrintLast Go.Proofs.YtcnobkcddgcifaaW.PrintMore Go.Proofs.Ytcnobkcddgcifaa.Gen
/-- Does a rune from a place on meet p? -/
def anyRune (p : Nat → Bool) (s : ByteArray) : Nat → Nat → Bool
  | 0, _ => false
  | f + 1, pos => if pos < s.size then (if p (Utf8.decode s pos).1 = true then true else anyRune p s f (pos + (Utf8.decode s pos).2)) else false
theorem anyRune_end (p : Nat → Bool) (s : ByteArray) (f pos : Nat) (h : ¬ pos < s.size) : anyRune p s f pos = false := by cases f <;> simp [anyRune, h]
set_option maxRecDepth 100000 in
set_option maxHeartbeats 1000000 in
theorem sidx_calls (g : Nat) (lb : Array Value) (eg : ∀ args w, (callFunc g args).run Try.prog w = .ok (.enter g args) w) (p : Nat → Bool) (s : ByteArray) (w : World)
    (hp : ∀ (W : World) (x : Nat), x ≤ 1114111 → Below w.heap.size w W → Calls Try.prog g (#[.int .i32 (x : Int)] ++ lb) W fun e w' => e = .returned (.bool (p x)) ∧ Below W.heap.size W w') :
    Calls Try.prog 74 #[.string s, .func (.func g) #[] lb, .bool true] w fun e w' => ∃ i : Int, e = .returned (.int .i64 i) ∧ decide (0 ≤ i) = anyRune p s s.size 0 ∧ Below w.heap.size w w' := by
  have HP := Lib.hid hp
  clear hp
  go_enter Try.func74, Try.ntmps74
  go_wp2
  go_loopg [] s.size (fun gf wx => ∃ pos : Nat, wx.heap[w.heap.size]? = some (.stringIter s pos) ∧ Below w.heap.size w wx ∧ anyRune p s gf pos = anyRune p s s.size 0 ∧ s.size ≤ pos + gf)
  case atStart => exact ⟨0, World.iter_heap w s 0, (Below.refl _ w).alloc (Nat.le_refl _) _, rfl, by omega⟩
  case round =>
    obtain ⟨pos, hit, hbw, hleft, hfu⟩ := hrel
    by_cases hps : pos < s.size
    · obtain ⟨g', rfl⟩ : ∃ g', gk = g' + 1 := ⟨gk - 1, by omega⟩
      have hnx : ∀ ty, (Instr.next (.pointer (some ⟨w.heap.size, 0, none⟩)) true ty).run Try.prog wr = _ := fun ty => Lib.run_next_any_at wr w.heap.size s pos ty hit hps
      have hwd := Lib.width_pos s pos
      obtain ⟨R, hR⟩ : ∃ R, (Utf8.decode s pos).1 = R := ⟨_, rfl⟩
      obtain ⟨K, hK⟩ : ∃ K, (Utf8.decode s pos).2 = K := ⟨_, rfl⟩
      simp only [anyRune, hps, if_true, hR, hK] at hleft
      rw [hR, hK] at hnx
      rw [hK] at hwd
      have hit2 := Lib.iterAt_heap wr w.heap.size s pos (pos + K) hit
      have hbw2 := Lib.below_iterAt hbw (k := w.heap.size) (Nat.le_refl _) s (pos + K)
      obtain ⟨W, hWd⟩ : ∃ W, wr.iterAt w.heap.size s (pos + K) = W := ⟨_, rfl⟩
      rw [hWd] at hnx hit2 hbw2
      have hltW : w.heap.size < W.heap.size := (Array.getElem?_eq_some_iff.1 hit2).1
      have cS : Calls Try.prog g (#[.int .i32 (R : Int)] ++ lb) W _ := HP.out W R (by rw [← hR]; exact Lib.rune_le s pos) hbw2
      cases hsp : p R <;> rw [hsp] at cS <;> simp only [hsp, if_true, Bool.false_eq_true, Bool.true_eq_false, if_false] at hleft <;> replace hleft := Lib.hid hleft <;> clear hsp
      · go_wp2_with (go_at_fn g; refine cS.mono ?_; rintro e W' ⟨rfl, hbc⟩)
        go_roundg g'
        case measure => omega
        case rel => exact ⟨pos + K, (hbc.block _ hltW).trans hit2, (hbw2.trans (hbc.mono hbw2.size)), hleft.out, by omega⟩
      · go_wp2_with (go_at_fn g; refine cS.mono ?_; rintro e W' ⟨rfl, hbc⟩)
        go_ret
        exact ⟨_, rfl, by rw [← hleft.out]; simp, (hbw2.trans (hbc.mono hbw2.size))⟩
    · have hnx : ∀ ty, (Instr.next (.pointer (some ⟨w.heap.size, 0, none⟩)) true ty).run Try.prog wr = _ := fun ty => Lib.run_next_end_at wr w.heap.size s pos ty hit hps
      rw [anyRune_end p s gk pos hps] at hleft
      replace hleft := Lib.hid hleft
      go_wp2
      go_ret
      exact ⟨_, rfl, by rw [← hleft.out]; rfl, hbw⟩
theorem scontains_calls (g : Nat) (lb : Array Value) (eg : ∀ args w, (callFunc g args).run Try.prog w = .ok (.enter g args) w) (p : Nat → Bool) (s : ByteArray) (w : World)
    (hp : ∀ (W : World) (x : Nat), x ≤ 1114111 → Below w.heap.size w W → Calls Try.prog g (#[.int .i32 (x : Int)] ++ lb) W fun e w' => e = .returned (.bool (p x)) ∧ Below W.heap.size W w') :
    Calls Try.prog 58 #[.string s, .func (.func g) #[] lb] w fun e w' => e = .returned (.bool (anyRune p s s.size 0)) ∧ Below w.heap.size w w' := by
  have H := Lib.hid (sidx_calls g lb eg p s w hp)
  clear hp eg
  go_enter Try.func58, Try.ntmps58
  go_wp2_with fail
  have H2 : Calls Try.prog 70 #[.string s, .func (.func g) #[] lb] w fun e w' => ∃ i : Int, e = .returned (.int .i64 i) ∧ decide (0 ≤ i) = anyRune p s s.size 0 ∧ Below w.heap.size w w' := by
    go_enter Try.func70, Try.ntmps70
    go_wp2_with fail
    refine H.out.mono ?_
    rintro e w1 ⟨i, rfl, hi, hb⟩
    have HI := Lib.hid hi
    have HB := Lib.hid hb
    clear hi hb
    go_wp2
    go_ret
    exact ⟨_, rfl, HI.out, HB.out⟩
  refine H2.mono ?_
  rintro e w1 ⟨i, rfl, hi, hb⟩
  have HI := Lib.hid hi
  have HB := Lib.hid hb
  clear hi hb H H2
  go_wp2
  go_ret
  exact ⟨by rw [← HI.out]; rfl, HB.out⟩
/-- Not allowed in a name. -/
def badR (x : Nat) : Bool := decide (x ≠ 45 ∧ x ≠ 95 ∧ (x < 48 ∨ 57 < x) ∧ (x < 97 ∨ 122 < x))
set_option maxRecDepth 100000 in
theorem badR_calls (x : Nat) (w : World) : Calls Try.prog 59 #[.int .i32 (x : Int)] w fun e w' => e = .returned (.bool (badR x)) ∧ Below w.heap.size w w' := by
  have hv : Hid (badR x = (!((x : Int) == 45) && !((x : Int) == 95) && (decide ((x : Int) < 48) || decide (57 < (x : Int))) && (decide ((x : Int) < 97) || decide (122 < (x : Int))))) := Lib.hid (by
    unfold badR
    rw [Bool.eq_iff_iff]
    simp
    omega)
  cases h1 : ((x : Int) == 45) <;> cases h2 : ((x : Int) == 95) <;> cases h3 : decide ((x : Int) < 48) <;> cases h4 : decide (57 < (x : Int)) <;> cases h5 : decide ((x : Int) < 97) <;> cases h6 : decide (122 < (x : Int))
  all_goals
    rw [h1, h2, h3, h4, h5, h6] at hv
    first
    | (exfalso; simp at h1 h2 h3 h4 h5 h6; omega)
    | skip
  all_goals
    have n1 : ((x : Int) != 45) = !((x : Int) == 45) := rfl
    have n2 : ((x : Int) != 95) = !((x : Int) == 95) := rfl
    rw [h1] at n1
    rw [h2] at n2
    simp only [Bool.not_true, Bool.not_false] at n1 n2
    go_enter Try.func59, Try.ntmps59
    go_wp2
    go_ret
    exact ⟨by rw [hv.out]; rfl, Below.refl _ _⟩
/-- May it be a name? -/
def nameOK (s : ByteArray) : Bool := decide (1 ≤ s.size ∧ s.size ≤ 16 ∧ 97 ≤ bt s 0 ∧ bt s 0 ≤ 122) && !(anyRune badR s s.size 0)
set_option maxRecDepth 100000 in
theorem name_calls (s : ByteArray) (w : World) : Calls Try.prog 37 #[.string s] w fun e w' => e = .returned (.bool (nameOK s)) ∧ Below w.heap.size w w' := by
  have he : ∀ args w, (callFunc 59 args).run Try.prog w = .ok (.enter 59 args) w := enters_of Try.func59 (by kernel_rfl) rfl
  have H := Lib.hid (scontains_calls 59 #[] he badR s w (fun W x _ _ => badR_calls x W))
  clear he
  have hl : s.toList = s.data.toList := Lib.toList_data s
  have hle : s.toList.length = s.size := by rw [hl, Array.length_toList]; rfl
  by_cases h0 : s.size = 0
  · have hv : Hid (nameOK s = false) := Lib.hid (by unfold nameOK; rw [decide_eq_false (by omega)]; rfl)
    have hs : s.toList = [] := List.eq_nil_of_length_eq_zero (by omega)
    have hs2 : s.toList.isEmpty = true := by rw [hs]; rfl
    clear h0 hl hle
    go_enter Try.func37, Try.ntmps37
    go_wp2
    go_ret
    exact ⟨by rw [hv.out]; rfl, Below.refl _ _⟩
  · have hs2 : s.toList.isEmpty = false := by
      cases h : s.toList with
      | nil => rw [h] at hle; simp at hle; omega
      | cons a l => rfl
    have hs3 : ¬ s.toList = [] := by intro h; rw [h] at hs2; cases hs2
    have hpos : 0 < s.size := by omega
    have hb : ((s[0]'hpos).toNat : Int) = bt s 0 := bt_at s 0 hpos
    have hr := bt_range s 0
    clear hl hle h0
    by_cases h1 : s.size ≤ 16
    · by_cases h2 : 97 ≤ bt s 0
      · by_cases h3 : bt s 0 ≤ 122
        · have hv : Hid (nameOK s = !(anyRune badR s s.size 0)) := Lib.hid (by unfold nameOK; rw [decide_eq_true ⟨by omega, h1, h2, h3⟩]; rfl)
          rw [← hb] at h2 h3
          clear hb hr
          go_enter Try.func37, Try.ntmps37
          go_wp2_with fail
          refine H.out.mono ?_
          rintro e w1 ⟨rfl, hbb⟩
          have HB := Lib.hid hbb
          clear hbb H
          obtain ⟨t, ht⟩ : ∃ t, t = anyRune badR s s.size 0 := ⟨_, rfl⟩
          rw [← ht] at hv ⊢
          clear ht
          go_wp2
          go_ret
          exact ⟨by rw [hv.out]; rfl, HB.out⟩
        · have hv : Hid (nameOK s = false) := Lib.hid (by unfold nameOK; rw [decide_eq_false (by omega)]; rfl)
          rw [← hb] at h2 h3
          clear hb hr
          go_enter Try.func37, Try.ntmps37
          go_wp2
          go_ret
          exact ⟨by rw [hv.out]; rfl, Below.refl _ _⟩
      · have hv : Hid (nameOK s = false) := Lib.hid (by unfold nameOK; rw [decide_eq_false (by omega)]; rfl)
        rw [← hb] at h2
        clear hb hr
        go_enter Try.func37, Try.ntmps37
        go_wp2
        go_ret
        exact ⟨by rw [hv.out]; rfl, Below.refl _ _⟩
    · have hv : Hid (nameOK s = false) := Lib.hid (by unfold nameOK; rw [decide_eq_false (by omega)]; rfl)
      clear hb hr
      go_enter Try.func37, Try.ntmps37
      go_wp2
      go_ret
      exact ⟨by rw [hv.out]; rfl, Below.refl _ _⟩
/-- An account's place, and whether there is one. -/
def isName (name : ByteArray) (x : S57) : Bool := x.f0.toList == name.toList
def findA (l : List S57) (name : ByteArray) : Int × Bool := (max (idxOf l (isName name)) 0, l.any (isName name))
set_option maxRecDepth 100000 in
theorem find1_calls (x : S57) (name : ByteArray) (b : Nat) (w : World) (h : w.cell? ⟨b, 0, none⟩ = some (.string name)) :
    Calls Try.prog 53 #[.agg #[.string x.f0, .string x.f1, .int .i64 x.f2], .pointer (some ⟨b, 0, none⟩)] w fun e w' => e = .returned (.bool (isName name x)) ∧ Below w.heap.size w w' := by
  have ho : ∀ o, (w.alloc o).cell? ⟨b, 0, none⟩ = some (.string name) := fun o => ((below_alloc (Below.refl _ w) o).cell (World.block_lt_of_cell? w _ h)).trans h
  have HB := Lib.hid (below_alloc (Below.refl _ w) (.cells #[.string x.f0, .string x.f1, .int .i64 x.f2] 57))
  clear h
  go_enter Try.func53, Try.ntmps53
  go_wp2
  go_ret
  exact ⟨rfl, HB.out⟩
set_option maxRecDepth 100000 in
theorem find_calls (l : List S57) (A : Option Addr) (c : Nat) (name : ByteArray) (w : World) (hr : Kd.C k57 w A l.length l) (hc : l.length ≤ c) :
    Calls Try.prog 28 #[.slice A l.length c, .string name] w fun e w' => e = .returned (.tuple #[.int .i64 (findA l name).1, .bool (findA l name).2]) ∧ Below w.heap.size w w' := by
  have he : ∀ args w, (callFunc 53 args).run Try.prog w = .ok (.enter 53 args) w := enters_of Try.func53 (by kernel_rfl) rfl
  have hmf : ∀ (fn : Fn) (first cap : Array Value) (w : World), (Instr.makeFunc fn first cap).run Try.prog w = .ok (.func fn first cap) w := fun _ _ _ _ => rfl
  have H := Lib.hid (fun (W : World) (hW : Below w.heap.size w W) (b : Nat) (h1 : W.cell? ⟨b, 0, none⟩ = some (.string name)) =>
    index57 k57 rfl l A c W 53 #[.pointer (some ⟨b, 0, none⟩)] (isName name) (Kd.C_below hr hW) hc he (fun x _ cs w' hb hK => by
      obtain rfl := k57_open hK
      exact find1_calls x name b w' ((hb.cell (World.block_lt_of_cell? W _ h1)).trans h1)))
  clear hr hc he
  have H2 : Hid (∀ (W : World) (hW : Below w.heap.size w W) (b : Nat) (h1 : W.cell? ⟨b, 0, none⟩ = some (.string name)),
      Calls Try.prog 52 #[.slice A l.length c, .func (.func 53) #[] #[.pointer (some ⟨b, 0, none⟩)]] W fun e w' => e = .returned (.tuple #[.int .i64 (findA l name).1, .bool (findA l name).2]) ∧ Below W.heap.size W w') := Lib.hid (by
    intro W hW b h1
    have H1 := Lib.hid (H.out W hW b h1)
    have HG := Lib.hid (idxOf_ge l (isName name))
    have HV : Hid (findA l name = (max (idxOf l (isName name)) 0, l.any (isName name))) := Lib.hid rfl
    clear h1 H hW
    go_enter Try.func52, Try.ntmps52
    go_wp2_with fail
    refine H1.out.mono ?_
    rintro e w1 ⟨rfl, hb⟩
    have HB := Lib.hid hb
    clear hb H1
    obtain ⟨i, hi⟩ : ∃ i, i = idxOf l (isName name) := ⟨_, rfl⟩
    rw [← hi] at HG HV ⊢
    clear hi
    by_cases hneg : i < 0
    · have HM : Hid (max i 0 = 0) := Lib.hid (by omega)
      go_wp2
      go_ret2
      exact ⟨by rw [HV.out, ← HG.out, HM.out]; first | rfl | (rw [decide_eq_false (by omega : ¬ i ≥ 0)]; rfl), HB.out⟩
    · have HM : Hid (max i 0 = i) := Lib.hid (by omega)
      go_wp2
      go_ret2
      exact ⟨by rw [HV.out, ← HG.out, HM.out, decide_eq_true (by omega : i ≥ 0)]; rfl, HB.out⟩)
  go_enter Try.func28, Try.ntmps28
  go_wp2_with fail
  have hB := below_alloc (Below.refl _ w) (.cells #[.string name] 9)
  refine (H2.out _ hB w.heap.size (new_one w _ _)).mono ?_
  rintro e w1 ⟨rfl, hb⟩
  have HB := Lib.hid (below_then hB hB.size hb)
  clear hb H H2 hB
  obtain ⟨⟨r1, r2⟩, hr⟩ : ∃ r, r = findA l name := ⟨_, rfl⟩
  rw [← hr]
  have HRr := Lib.hid hr
  clear hr
  go_wp2
  go_ret2
  exact ⟨by rw [← HRr.out]; rfl, HB.out⟩
end Go.Proofs.Ytcnobkcddgcifaa.PT
