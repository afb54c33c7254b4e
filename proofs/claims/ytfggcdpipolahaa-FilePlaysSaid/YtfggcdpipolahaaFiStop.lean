/- A disk: what stops an operation. -/
import Derived.Test.YtfggcdpipolahaaFi
import Derived.Test.YtfggcdpipolahaaWTab
set_option linter.unusedVariables false
set_option linter.unusedSimpArgs false
namespace Go.Proofs.Ytfggcdpipolahaa.PF
open Go.RowKit Go.Proofs.YtfggcdpipolahaaW.PrintWords Go.Proofs.YtfggcdpipolahaaW.PrintLast Go.Proofs.YtfggcdpipolahaaW.PrintMore
attribute [local go_sem] max2_int min2_int max_two min_two
def stop (d : Dk) : Dk × Int := if d.down = true then (d, 6) else if d.arm = 1 then ({ d with arm := dec d.arm, fail := dec d.fail, down := true }, 6) else if d.fail = 1 then ({ d with arm := dec d.arm, fail := dec d.fail }, d.wth) else ({ d with arm := dec d.arm, fail := dec d.fail }, 0)
theorem grown_drew (w : World) (row : Option Nat) : w.grownBy w.drew row := ⟨rfl, rfl, rfl, Nat.le_refl _, fun _ _ _ => rfl⟩
def file_stopped.T3 : Bool × List (List Nat × List Nat) := (true, [([], []), ([0], [0]), ([1], [1]), ([2], [2]), ([], []), ([4], [4]), ([5], [5]), ([6, 3], [6]), ([3, 7, 0, 1, 2, 3], [3]), ([7, 8, 0, 1, 2, 3, 4, 5, 6, 7, 8], [7])])
def file_stopped.B3 : List Nat := [0, 1, 3, 7, 0, 16, 48, 127, 255, 511]
theorem file_stopped.tab3 : rtab .any (opsOf Try.f33 3) = file_stopped.T3 := by kernel_rfl
theorem file_stopped.bits3 : waitsOk file_stopped.T3.2 file_stopped.B3 = true := by kernel_rfl
set_option maxRecDepth 100000 in
set_option maxHeartbeats 4000000 in
theorem stopped_calls {b : Nat} {d : Dk} {w : World} (h : DB w b d) (ha : 0 ≤ d.arm ∧ d.arm ≤ 9223372036854775807) (hf : 0 ≤ d.fail ∧ d.fail ≤ 9223372036854775807) :
    Calls Try.prog 33 #[.pointer (some ⟨b, 0, none⟩)] w fun e w' => e = .returned (.int .i64 (stop d).2) ∧ DB w' b (stop d).1 ∧ w.grownBy w' (some b) := by
  have H := Lib.hid h
  have HN := Lib.hid (And.intro ha hf)
  have g8 : w.cell? ⟨b, 8, none⟩ = some (.bool d.down) := h.cell 8 rfl
  clear h ha hf
  cases hd : d.down with
  | true =>
    rw [hd] at g8
    have e : stop d = (d, 6) := by unfold stop; rw [if_pos hd]
    rw [e]
    clear e hd
    go_enter Try.func33, Try.ntmps33
    go_wp2
    go_ret
    exact ⟨rfl, H.out, grown_refl _ _⟩
  | false =>
    rw [hd] at g8
    have HE := Lib.hid (show stop d = if d.arm = 1 then ({ d with arm := dec d.arm, fail := dec d.fail, down := true }, 6) else if d.fail = 1 then ({ d with arm := dec d.arm, fail := dec d.fail }, d.wth) else ({ d with arm := dec d.arm, fail := dec d.fail }, 0) by unfold stop; rw [if_neg (by rw [hd]; decide)])
    clear hd
    have HF := Lib.hid (spent_fail (w := w.drew) (d := d) (b := b) H.out HN.out.2)
    go_enter Try.func33, Try.ntmps33
    go_upto_region 3 with (fail)
    refine start_ (n := 10) (S := fun w' => True) (ds := []) #[false, false, false, false, false, false, false, false, false, false] (by kernel_rfl) rfl rfl trivial (fun hHeld => ?_)
    refine with_tabW file_stopped.tab3 file_stopped.bits3 (fun HT_ HW_ => ?_)
    refine pure_ (i := 0) (N := some 9) (v := ?_) (a' := ?_) #[true, false, false, false, false, false, false, false, false, false] rfl rfl (any_of HT_.out (by kernel_rfl)) (fun _ _ _ h => h) (Or.inl ⟨by rfl, ?_⟩) ?_ ?_
    rotate_left
    · intro w'
      go_simp
      with_reducible rfl
    rotate_left
    · simp only [Act.put, List.setIfInBounds_toArray, List.set_cons_zero, List.set_cons_succ, i64_w, i32_w]
      rfl
    refine pure_ (i := 1) (N := some 10) (v := ?_) (a' := ?_) #[true, true, false, false, false, false, false, false, false, false] rfl rfl (any_of HT_.out (by kernel_rfl)) (fun _ _ _ h => h) (Or.inl ⟨by rfl, ?_⟩) ?_ ?_
    rotate_left
    · intro w'
      go_simp
      with_reducible rfl
    rotate_left
    · simp only [Act.put, List.setIfInBounds_toArray, List.set_cons_zero, List.set_cons_succ, i64_w, i32_w]
      rfl
    refine pure_ (i := 2) (N := some 11) (v := ?_) (a' := ?_) #[true, true, true, false, false, false, false, false, false, false] rfl rfl (any_of HT_.out (by kernel_rfl)) (fun _ _ _ h => h) (Or.inl ⟨by rfl, ?_⟩) ?_ ?_
    rotate_left
    · intro w'
      go_simp
      with_reducible rfl
    rotate_left
    · simp only [Act.put, List.setIfInBounds_toArray, List.set_cons_zero, List.set_cons_succ, i64_w, i32_w]
      rfl
    refine pure_ (i := 4) (N := some 13) (v := ?_) (a' := ?_) #[true, true, true, false, true, false, false, false, false, false] rfl rfl (any_of HT_.out (by kernel_rfl)) (fun _ _ _ h => h) (Or.inl ⟨by rfl, ?_⟩) ?_ ?_
    rotate_left
    · intro w'
      go_simp
      with_reducible rfl
    rotate_left
    · simp only [Act.put, List.setIfInBounds_toArray, List.set_cons_zero, List.set_cons_succ, i64_w, i32_w]
      rfl
    refine pure_ (i := 5) (N := some 14) (v := ?_) (a' := ?_) #[true, true, true, false, true, true, false, false, false, false] rfl rfl (any_of HT_.out (by kernel_rfl)) (fun _ _ _ h => h) (Or.inl ⟨by rfl, ?_⟩) ?_ ?_
    rotate_left
    · intro w'
      go_simp
      with_reducible rfl
    rotate_left
    · simp only [Act.put, List.setIfInBounds_toArray, List.set_cons_zero, List.set_cons_succ, i64_w, i32_w]
      rfl
    refine pure_ (i := 6) (N := some 15) (v := ?_) (a' := ?_) #[true, true, true, false, true, true, true, false, false, false] rfl rfl (any_of HT_.out (by kernel_rfl)) (fun _ _ _ h => h) (Or.inl ⟨by rfl, ?_⟩) ?_ ?_
    rotate_left
    · intro w'
      go_simp
      with_reducible rfl
    rotate_left
    · simp only [Act.put, List.setIfInBounds_toArray, List.set_cons_zero, List.set_cons_succ, i64_w, i32_w]
      rfl
    refine one_ (i := 3) (N := some 12) #[true, true, true, true, true, true, true, false, false, false] rfl rfl (one_of HT_.out (by kernel_rfl)) (by decide) (fun K hK => ?_)
    refine goes_ Try.func50 (by kernel_rfl) rfl #[.pointer (some ⟨b, 10, none⟩)] (by rfl) rfl rfl (by simp only [List.map_toArray, List.map_cons, List.map_nil]; rfl) ?_
    with_reducible refine (HF.out).mono ?_
    rintro e w1 ⟨rfl, hd1, hg1⟩
    refine ⟨_, rfl, ?_⟩
    have HG := Lib.hid hg1
    have HA := Lib.hid (spent_arm hd1 (HN.out.1))
    clear hd1 hg1
    refine hK.out _ _ trivial (fun hHeld => ?_)
    clear hK K
    refine norm_ (a' := ?_) ?_ ?_
    rotate_left
    · show Act.put _ (some 12) _ = _
      simp only [Act.put, List.setIfInBounds_toArray, List.set_cons_zero, List.set_cons_succ, i64_w, i32_w]
      rfl
    refine one_ (i := 7) (N := some 16) #[true, true, true, true, true, true, true, true, false, false] rfl rfl (one_of HT_.out (by kernel_rfl)) (by decide) (fun K hK => ?_)
    refine goes_ Try.func50 (by kernel_rfl) rfl #[.pointer (some ⟨b, 9, none⟩)] (by rfl) rfl rfl (by simp only [List.map_toArray, List.map_cons, List.map_nil]; rfl) ?_
    with_reducible refine (HA.out).mono ?_
    rintro e w2 ⟨rfl, hd2, hg2⟩
    refine ⟨_, rfl, ?_⟩
    have HD := Lib.hid hd2
    replace HG := Lib.hid (grown_then HG.out hg2)
    clear hd2 hg2
    refine hK.out _ _ trivial (fun hHeld => ?_)
    clear hK K
    refine norm_ (a' := ?_) ?_ ?_
    rotate_left
    · show Act.put _ (some 16) _ = _
      simp only [Act.put, List.setIfInBounds_toArray, List.set_cons_zero, List.set_cons_succ, i64_w, i32_w]
      rfl
    refine pure_ (i := 8) (N := some 3) (v := ?_) (a' := ?_) #[true, true, true, true, true, true, true, true, true, false] rfl rfl (any_of HT_.out (by kernel_rfl)) (fun _ _ _ h => h) (Or.inl ⟨by rfl, ?_⟩) ?_ ?_
    rotate_left
    · intro w'
      go_simp
      with_reducible rfl
    rotate_left
    · simp only [Act.put, List.setIfInBounds_toArray, List.set_cons_zero, List.set_cons_succ, i64_w, i32_w]
      rfl
    refine pure_ (i := 9) (N := some 4) (v := ?_) (a' := ?_) #[true, true, true, true, true, true, true, true, true, true] rfl rfl (any_of HT_.out (by kernel_rfl)) (fun _ _ _ h => h) (Or.inl ⟨by rfl, ?_⟩) ?_ ?_
    rotate_left
    · intro w'
      go_simp
      with_reducible rfl
    rotate_left
    · simp only [Act.put, List.setIfInBounds_toArray, List.set_cons_zero, List.set_cons_succ, i64_w, i32_w]
      rfl
    refine done_ (done_of HT_.out (by kernel_rfl)) ?_
    
    replace HD : Hid (DB w2 b { d with arm := dec d.arm, fail := dec d.fail }) := HD
    replace HG := Lib.hid (grown_then (grown_drew w (some b)) HG.out)
    clear g8 HF HA
    have c8 : w2.cell? ⟨b, 8, none⟩ = some (.bool d.down) := HD.out.cell 8 rfl
    have z8 : w2.frozen? ⟨b, 8, none⟩ = false := blk_frozen HD.out 8
    have c11 : w2.cell? ⟨b, 11, none⟩ = some (.int .i64 d.wth) := HD.out.cell 11 rfl
    by_cases h1 : d.arm = 1
    · have HE1 := Lib.hid (HE.out.trans (if_pos h1))
      have h1' : decide (d.arm = 1) = true := decide_eq_true h1
      rw [h1']
      clear h1 h1'
      go_wp2
      go_ret
      rw [HE1.out]
      exact ⟨rfl, HD.out.set 8 _ rfl, grown_then HG.out (grown_set 8 _)⟩
    · replace HE := Lib.hid (HE.out.trans (if_neg h1))
      have h1' : decide (d.arm = 1) = false := decide_eq_false h1
      rw [h1']
      clear h1 h1'
      by_cases h2 : d.fail = 1
      · have HE1 := Lib.hid (HE.out.trans (if_pos h2))
        have h2' : decide (d.fail = 1) = true := decide_eq_true h2
        rw [h2']
        clear h2 h2'
        go_wp2
        go_ret
        rw [HE1.out]
        exact ⟨rfl, HD.out, HG.out⟩
      · have HE1 := Lib.hid (HE.out.trans (if_neg h2))
        have h2' : decide (d.fail = 1) = false := decide_eq_false h2
        rw [h2']
        clear h2 h2'
        go_wp2
        go_ret
        rw [HE1.out]
        exact ⟨rfl, HD.out, HG.out⟩
end Go.Proofs.Ytfggcdpipolahaa.PF
