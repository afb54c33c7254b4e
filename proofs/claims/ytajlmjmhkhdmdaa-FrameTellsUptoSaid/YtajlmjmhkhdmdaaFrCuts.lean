/- FrameCuts: frames do not hang on how their bytes are cut. -/
import Derived.Test.YtajlmjmhkhdmdaaFrFedW
set_option linter.unusedVariables false
set_option linter.unusedSimpArgs false
namespace Go.Proofs.Ytajlmjmhkhdmdaa.PF
open Go.RowKit Go.Proofs.YtajlmjmhkhdmdaaW.PrintWords Go.Proofs.YtajlmjmhkhdmdaaW.PrintLast Go.Proofs.YtajlmjmhkhdmdaaW.PrintMore
attribute [local go_sem] max2_int min2_int max_two min_two
theorem same_self (l : List Int) : musterlow_SameBytes.f l l = some true := by
  unfold musterlow_SameBytes.f
  rw [beq_self_eq_true]
theorem sf_loop (l : List Fr) (hl : l.length ≤ 4398046511104) (d : Nat) : ∀ (k i : Nat), i + d = l.length → d < k → musterlow_SameFrames.l0 k l l i = some true := by
  induction d with
  | zero =>
    intro k i h hk
    obtain ⟨k, rfl⟩ : ∃ m, k = m + 1 := ⟨k - 1, by omega⟩
    rw [musterlow_SameFrames.l0, if_neg (by omega)]
  | succ d ih =>
    intro k i h hk
    obtain ⟨k, rfl⟩ : ∃ m, k = m + 1 := ⟨k - 1, by omega⟩
    rw [musterlow_SameFrames.l0, if_pos (by omega), if_pos (by omega), if_pos (by omega), if_pos rfl, same_self, Option.bind_some, if_pos rfl]
    have e : wrap64 ((i : Int) + 1) = ((i + 1 : Nat) : Int) := by unfold wrap64; omega
    rw [e]
    exact ih k (i + 1) (by omega) (by omega)
theorem sf_self (l : List Fr) (hl : l.length ≤ 4398046511104) : musterlow_SameFrames.f (l.length + 1) l l = some true := by
  unfold musterlow_SameFrames.f
  rw [if_pos rfl]
  exact sf_loop l hl l.length _ 0 (by omega) (by omega)
theorem same_frames (l : List Fr) (A : Option Addr) (c : Nat) (A1 : Option Addr) (c1 : Nat) (w : World) (hl : l.length ≤ 4398046511104) (hr : Kd.C k27 w A l.length l) (hc : l.length ≤ c) (hr1 : Kd.C k27 w A1 l.length l) (hc1 : l.length ≤ c1) :
    Calls Try.prog 15 #[.slice A l.length c, .slice A1 l.length c1] w fun e w' => e = .returned (.bool true) ∧ Drawn0 w w' :=
  musterlow_SameFrames.calls (l.length + 1) A c l A1 c1 l true w hr hc hr1 hc1 (sf_self l hl)
set_option maxRecDepth 100000 in
set_option maxHeartbeats 8000000 in
theorem cuts_law (A : Option Addr) (c : Nat) (l : List Int) (A1 : Option Addr) (c1 : Nat) (S : List Int) (A2 : Option Addr) (c2 : Nat) (T : List Int) (w : World) (hr : Kd.C ku8 w A l.length l) (hc : l.length ≤ c) (hr1 : Kd.C (Kd.int .i64) w A1 S.length S) (hc1 : S.length ≤ c1) (hr2 : Kd.C (Kd.int .i64) w A2 T.length T) (hc2 : T.length ≤ c2) (hb : Bytes l) :
    Calls Try.prog 4 #[.slice A l.length c, .slice A1 S.length c1, .slice A2 T.length c2] w fun e w' => e = .returned (.bool true) ∧ Below w.heap.size w w' := by
  by_cases hbig : 200000 < l.length
  · have hln : l.length ≤ 9223372036854775807 := hr.2.1
    clear hr hc hr1 hc1 hr2 hc2 hb
    go_enter Try.func4, Try.ntmps4
    go_wp2_with fail
    refine (awake_calls _).mono ?_
    rintro e w1 ⟨rfl, hb⟩
    have HB := Lib.hid hb
    clear hb
    go_wp2
    go_ret
    exact ⟨rfl, HB.out⟩
  · have hsm : l.length ≤ 200000 := by omega
    have H1 := Lib.hid (fed_calls l A c S A1 c1 w hr hc hr1 hc1 hb (by omega))
    have H2 := Lib.hid (fun W (hW : Below w.heap.size w W) => fed_calls l A c T A2 c2 W (Kd.C_below hr hW) hc (Kd.C_below hr2 hW) hc2 hb (by omega))
    have hfl := feed_left l.length l (Nat.le_refl _) hb
    have hfc := feed_count l.length l (Nat.le_refl _)
    have HC := Lib.hid hfc
    clear hr hc hr1 hc1 hr2 hc2 hb hbig hfl hfc
    go_enter Try.func4, Try.ntmps4
    go_wp2_with fail
    refine H1.out.mono ?_
    rintro e w1 ⟨Av, cv, rfl, hR, hb⟩
    have HR := Lib.hid hR
    have HB := Lib.hid hb
    clear hR hb H1
    go_wp2_with fail
    refine (H2.out _ HB.out).mono ?_
    rintro e w2 ⟨Aw, cw, rfl, hR, hb⟩
    have HR2 := Lib.hid hR
    replace HR := Lib.hid (Kd.R_below HR.out hb)
    replace HB := Lib.hid (below_then HB.out HB.out.size hb)
    clear hR hb H2
    have HSF := Lib.hid (same_frames (feedF l).1 Av cv Aw cw w2 (by have := HC.out; omega) (Kd.R_reads' HR.out).2.2 (Kd.R_reads' HR.out).2.1 (Kd.R_reads' HR2.out).2.2 (Kd.R_reads' HR2.out).2.1)
    generalize (feedF l).2.1 = br
    generalize (feedF l).2.2.length = ll
    generalize (feedF l).1.length = nl at HSF ⊢
    have hb1 : (br == br) = true := beq_self_eq_true _
    have hb2 : ((ll : Int) == (ll : Int)) = true := beq_self_eq_true _
    go_wp2_with fail
    refine HSF.out.mono ?_
    rintro e w3 ⟨rfl, hd⟩
    replace HB := Lib.hid (below_then HB.out HB.out.size hd.below)
    clear hd HSF
    go_wp2_with fail
    refine (awake_calls _).mono ?_
    rintro e w4 ⟨rfl, hb⟩
    replace HB := Lib.hid (below_then HB.out HB.out.size hb)
    clear hb
    go_wp2
    go_ret
    exact ⟨rfl, HB.out⟩
end Go.Proofs.Ytajlmjmhkhdmdaa.PF
