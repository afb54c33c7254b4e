/- The chapter's first example. -/
import Derived.Test.YtfggcdpipolahaaFiHas
set_option linter.unusedVariables false
set_option linter.unusedSimpArgs false
namespace Go.Proofs.Ytfggcdpipolahaa.PF
open Go.RowKit Go.Proofs.YtfggcdpipolahaaW.PrintWords Go.Proofs.YtfggcdpipolahaaW.PrintLast Go.Proofs.YtfggcdpipolahaaW.PrintMore
attribute [local go_sem] max2_int min2_int max_two min_two
def aw1 : ADk := (ADk.new.append 0 [97, 98]).1
def aw2 : ADk := (aw1.crash 0 1).1
def aw3 : ADk := (aw2.append 0 [98, 99]).1
def aw4 : ADk := aw3.sync.1
set_option maxRecDepth 100000 in
set_option maxHeartbeats 8000000 in
theorem awake_calls (w : World) : Calls Try.prog 17 #[] w fun e w' => e = .returned (.bool true) ∧ Below w.heap.size w w' := by
  have kc := fun (w : World) (C : Array Value) (n c : Nat) => Lib.run_convert_bytes_const (P := Try.prog) w 24 5 C n c Try.underlying24 Try.underlying5
  go_enter Try.func17, Try.ntmps17
  go_wp2_with fail
  refine (Has.new w).mono ?_
  rintro e w1 ⟨b, rfl, hO⟩
  have HO := Lib.hid hO
  clear hO
  go_wp2_with fail
  refine ((HO.out.below (below_alloc (Below.refl _ _) _)).append (a' := aw1) (z := 0) 0 _ [97, 98] _ rfl (by decide) (Low.const_reads w1 [97, 98] (2, 3) (by decide)) (Nat.le_refl _) (by decide)).mono ?_
  rintro e w2 ⟨rfl, hO2, _⟩
  have HO2 := Lib.hid hO2
  clear hO2 HO
  go_wp2_with fail
  refine (HO2.out.crash (a' := aw2) (z := 0) 0 1 rfl).mono ?_
  rintro e w3 ⟨rfl, hO3, _⟩
  have HO3 := Lib.hid hO3
  clear hO3 HO2
  go_wp2_with fail
  refine (HO3.out.read (x := [97]) (z := 0) 0 rfl (by decide)).mono ?_
  rintro e w4 ⟨A4, c4, he, hR4, hb4⟩
  replace he : e = .returned (.tuple #[.slice A4 1 c4, .int .i64 0]) := he
  subst he
  have HR4 := Lib.hid hR4
  have HO4 := Lib.hid (HO3.out.below hb4)
  clear hR4 hb4 HO3
  go_wp2_with fail
  refine ((HO4.out.below (below_alloc (Below.refl _ _) _)).append (a' := aw3) (z := 0) 0 _ [98, 99] _ rfl (by decide) (Low.const_reads w4 [98, 99] (2, 3) (by decide)) (Nat.le_refl _) (by decide)).mono ?_
  rintro e w5 ⟨rfl, hO5, hk5⟩
  have HO5 := Lib.hid hO5
  have HR5 := Lib.hid (hk5 _ _ _ _ (Kd.R_below HR4.out (below_alloc (Below.refl _ _) _)))
  clear hO5 hk5 HR4 HO4
  go_wp2_with fail
  refine (HO5.out.sync (a' := aw4) (z := 0) rfl).mono ?_
  rintro e w6 ⟨rfl, hO6, hk6⟩
  have HO6 := Lib.hid hO6
  have HR6 := Lib.hid (hk6 _ _ _ _ HR5.out)
  clear hO6 hk6 HR5 HO5
  go_wp2_with fail
  refine (HO6.out.durable (x := [97, 98, 99]) (z := 0) 0 rfl).mono ?_
  rintro e w7 ⟨A7, c7, he, hR7, hb7⟩
  replace he : e = .returned (.tuple #[.slice A7 3 c7, .int .i64 0]) := he
  subst he
  have hs1 : (convert 24 9 (.slice A4 1 c4)).run Try.prog w7 = .ok (.string ⟨#[97]⟩) w7 := str_of (Kd.R_below HR6.out hb7) (by decide)
  have hs2 : (convert 24 9 (.slice A7 3 c7)).run Try.prog w7 = .ok (.string ⟨#[97, 98, 99]⟩) w7 := str_of hR7 (by decide)
  have HO7 := Lib.hid (HO6.out.below hb7)
  clear hR7 hb7 HO6 HR6
  go_wp2_with fail
  refine (HO7.out.pending (m := 0) rfl).mono ?_
  rintro e w8 ⟨rfl, rfl⟩
  go_wp2
  go_ret
  exact ⟨rfl, HO7.out.bel⟩
end Go.Proofs.Ytfggcdpipolahaa.PF
