/- Frames: the contract of Put, and the fixed answers (awake). -/
import Derived.Test.YtajlmjmhkhdmdaaFrWalk
import Derived.Test.YtajlmjmhkhdmdaaFrPut
import Derived.Lib.SlBytesConst
set_option linter.unusedVariables false
set_option linter.unusedSimpArgs false
namespace Go.Proofs.Ytajlmjmhkhdmdaa.PF
open Go.RowKit Go.Proofs.YtajlmjmhkhdmdaaW.PrintWords Go.Proofs.YtajlmjmhkhdmdaaW.PrintLast Go.Proofs.YtajlmjmhkhdmdaaW.PrintMore
attribute [local go_sem] max2_int min2_int max_two min_two
def putL (k : Int) (l : List Int) : List Int := if 65536 ≤ l.length then [] else putF k l
def putE (l : List Int) : Int := if 65536 ≤ l.length then 3 else 0
theorem put_calls (k : Int) (l : List Int) (A : Option Addr) (c : Nat) (w : World) (hr : Kd.C ku8 w A l.length l) (hc : l.length ≤ c) (hk : 0 ≤ k ∧ k ≤ 255) (hl : Bytes l) (hlen : l.length ≤ 140737488351232) :
    Calls Try.prog 8 #[.agg #[.int .u8 k, .slice A l.length c]] w fun e w' => ∃ A' c', e = .returned (.tuple #[.slice A' (putL k l).length c', .int .i64 (putE l)]) ∧ Kd.R ku8 5 w' w.heap.size (fun _ => True) (.slice A' (putL k l).length c') (putL k l) ∧ Below w.heap.size w w' := by
  refine (frame_Put.calls k A c l (putL k l) (putE l) w hr hc (by rw [put_f k l hk hl hlen]; unfold putL putE; split <;> rfl)).mono ?_
  rintro e w' ⟨v, rfl, hR, hb⟩
  obtain ⟨A', c', rfl⟩ := Kd.R_slice hR
  exact ⟨A', c', rfl, hR, hb⟩
theorem one_C {α : Type} (d : Kd α) (W : World) (b : Nat) (x : α) (cs : List Value) (t : TypeId) (hs : 0 < d.sz) (hK : d.K W x cs) (hb : W.heap[b]? = some (.cells cs.toArray t (0, 0))) : Kd.C d W (some ⟨b, 0, none⟩) 1 [x] := by
  refine ⟨rfl, by decide, fun _ => ⟨⟨b, 0, none⟩, rfl, fun j p hj => ?_⟩⟩
  cases j with
  | zero =>
    simp only [List.getElem?_cons_zero, Option.some.injEq] at hj
    subst hj
    refine ⟨cs, d.K_len hK, hK, fun i u hu => ?_⟩
    rw [add_plain]
    have := blk_cell hb (0 * d.sz + i)
    rw [this]
    simpa using hu
  | succ j => simp at hj
theorem self_R {w : World} {base g : Nat} {ok : Nat → Prop} {v : Value} {l : List Int} (h : Kd.R ku8 5 w g ok v l) (hb : base ≤ g) : Kd.R ku8 5 w base (fun k => g ≤ k) v l := Kd.R_lower (Kd.R_mono (Kd.R_bound h) (fun k hk => hk.2.1)) hb
set_option maxRecDepth 100000 in
set_option maxHeartbeats 8000000 in
theorem awake_calls (w : World) : Calls Try.prog 13 #[] w fun e w' => e = .returned (.bool true) ∧ Below w.heap.size w w' := by
  have kc := fun (w : World) (C : Array Value) (n c : Nat) => Lib.run_convert_bytes_const (P := Try.prog) w 22 5 C n c Try.underlying22 Try.underlying5
  obtain ⟨i0, hi0, _, hz1, _⟩ := info_parts Low.info8
  go_enter Try.func13, Try.ntmps13
  go_wp2_with fail
  refine (put_calls 5 [97, 98] _ _ _ (Low.const_reads w [97, 98] (2, 3) (by decide)) (Nat.le_refl _) (by decide) (by unfold Bytes; decide) (by simp)).mono ?_
  rintro e w1 ⟨A1, c1, he, hR, hb⟩
  have hB : putL 5 [97, 98] = putF 5 [97, 98] := rfl
  have hlB : (putF 5 [97, 98]).length = 11 := putF_length 5 [97, 98]
  have HBy := Lib.hid (putF_bytes (k := 5) (l := [97, 98]) (by unfold Bytes; decide))
  have HF1 : Hid (feedF ((putF 5 [97, 98]).take 6) = ([], false, (putF 5 [97, 98]).take 6)) := Lib.hid (fd_wait (by rw [List.length_take, hlB]; decide) (by decide +kernel) (by decide +kernel))
  have HF2 : Hid (feedF (putF 5 [97, 98] ++ [0]) = ([⟨5, [97, 98]⟩], false, [0])) := Lib.hid (by rw [feed_put 5 [97, 98] [0] (by decide) (by decide), fd_short (l := [0]) (by decide)])
  have HS7 : Hid ((putF 5 [97, 98]).take 7 = [0, 0, 0, 3, 5, 97, 98]) := Lib.hid (by decide +kernel)
  rw [hB, hlB] at he hR
  rw [show putE [97, 98] = 0 from rfl] at he
  subst he
  obtain ⟨L, hL⟩ : ∃ L, L = putF 5 [97, 98] := ⟨_, rfl⟩
  rw [← hL] at HBy HF1 HF2 HS7 hR hlB
  obtain ⟨gA, capA, hvA, _⟩ := Kd.R_form hR (by rw [hlB]; decide)
  obtain rfl : A1 = some ⟨gA, 0, none⟩ := by simp at hvA; exact hvA.1
  clear hvA
  have HR := Lib.hid hR
  have HB := Lib.hid (below_then (below_alloc (Below.refl w.heap.size w) _) (below_alloc (Below.refl _ _) _).size hb)
  have HL := Lib.hid hlB
  have hc11 : 11 ≤ c1 := (Kd.R_reads' hR).2.1
  clear hR hb hB hL hlB
  go_wp2_with fail
  refine (new_calls _).mono ?_
  rintro e w2 ⟨b, hbe, rfl, hbx, hb⟩
  have hwb : w.heap.size ≤ b := by rw [hbe]; exact HB.out.size
  have hRlt : ∀ k, Value.ownBlock (.slice (some ⟨gA, 0, none⟩) 11 c1) = some k → k < b := fun k hk => by rw [hbe]; exact Kd.R_lt HR.out k hk
  replace HR := Lib.hid (show Kd.R ku8 5 w2 w.heap.size (fun k => k < b) (.slice (some ⟨gA, 0, none⟩) 11 c1) L from Kd.R_below (Kd.R_lower (Kd.R_mono (Kd.R_bound HR.out) (fun k hk => by rw [hbe]; exact hk.2.2.1)) (by simp)) hb)
  replace HB := Lib.hid (below_then HB.out HB.out.size hb)
  have HBX := Lib.hid hbx
  have HWB := Lib.hid hwb
  clear hbe hbx hb hwb hRlt
  have hcut6 := Low.cut_h (P := Try.prog) 22 5 Try.underlying22 hi0 hz1 (some ⟨gA, 0, none⟩) 11 c1 6 (by omega)
  have hcut7 := Low.cut_h (P := Try.prog) 22 5 Try.underlying22 hi0 hz1 (some ⟨gA, 0, none⟩) 11 c1 7 (by omega)
  have hC := (Kd.R_reads' HR.out).2.2
  have hC6 := Low.take_C hC 6 (by rw [HL.out]; decide)
  have e6 : (L.take 6).length = 6 := by rw [List.length_take, HL.out]; rfl
  have e6r : (L.drop 6).length = 5 := by rw [List.length_drop, HL.out]
  have H1 := feed_calls b none 0 [] (L.take 6) (L.take 6) rfl (some ⟨gA, 0, none⟩) c1 w2 w.heap.size (fun _ => False) HBX.out (Kd.R_nil _ _ _ _ _) (fun _ h => h.elim) HWB.out (by rw [e6]; exact hC6) (by rw [e6]; omega) (fun x hx => by cases hx) (HBy.out.take 6) (by rw [e6]; decide)
  rw [e6] at H1
  replace H1 := Lib.hid H1
  have HE6 := Lib.hid (And.intro e6 e6r)
  clear hC hC6 e6 e6r hi0 hz1
  go_wp2_with fail
  refine H1.out.mono ?_
  rintro e w3 ⟨v, A2, c2, g, he, hg, hv, hbx, _, hl, hel, hbel⟩
  rw [HF1.out] at he hv hbx hl
  obtain ⟨Av, cv, rfl⟩ := Kd.R_slice hv
  replace he : e = .returned (.tuple #[.slice Av 0 cv, .int .i64 0]) := he
  subst he
  have HR3 := Lib.hid (Kd.R_step HR.out (fun k hk hlt => hel.2 k hlt (Nat.ne_of_lt hk) (fun h => h)))
  have HB3 := Lib.hid (hbel w.heap.size w (Nat.le_refl _) HB.out)
  have HBX3 := Lib.hid (show RB w3 b false A2 6 c2 by have h := hbx; rw [HE6.out.1] at h; exact h)
  have HL3 := Lib.hid (show Kd.R ku8 5 w3 g (fun _ => True) (.slice A2 6 c2) (L.take 6) by have h := hl; rw [HE6.out.1] at h; exact h)
  have HG := Lib.hid (show b < g from Nat.lt_of_lt_of_le HBX.out.lt hg)
  clear hg hv hbx hl hel hbel HR HB HBX H1
  have HLf := Lib.hid (left_calls HBX3.out (by decide))
  go_wp2_with fail
  refine HLf.out.mono ?_
  rintro e w' ⟨rfl, rfl⟩
  clear HLf
  have hC6r := drop_C (Kd.R_reads' HR3.out).2.2 (by rw [HL.out]; exact hc11) 6 (by rw [HL.out]; decide)
  rw [if_neg (by omega)] at hC6r
  replace hC6r : Kd.C ku8 w3 (some ⟨gA, 6, none⟩) (L.drop 6).length (L.drop 6) := by simpa [Addr.add] using hC6r
  have HCp := Low.copy_calls (some ⟨gA, 6, none⟩) (c1 - 6) (L.drop 6) w3 hC6r (by rw [HE6.out.2]; decide)
  rw [HE6.out.2] at HCp
  replace HCp := Lib.hid HCp
  clear hC6r
  go_wp2_with fail
  refine HCp.out.mono ?_
  rintro e w4 ⟨v4, rfl, hR4, hb⟩
  have HR4 := Lib.hid hR4
  have HZ4 := Lib.hid HB3.out.size
  have HBl := Lib.hid hb
  clear hR4 hb HCp
  go_wp2_with ((with_reducible refine gate_builtin (b := .append) (xs := #[.tmp 37, .tmp 38]) rfl ?_); at_builtin; refine Kd.R_append ku8 (w0 := w3) w3.heap.size rfl (.tmp 37) (.tmp 38) 22 5 (.int .u8 0) 1 rfl Try.underlying22 Low.info8 rfl (by decide) (by omega) v4 (L.drop 6) 0 [.int .u8 0] (fun _ => True) (fun _ => False) rfl rfl rfl (fun _ hk => hk.elim) (fun _ _ => trivial) HR4.out HBl.out HBl.out.size (by rw [HE6.out.2]; omega) ?_; intro v5 w5 ho hb _ _; have HO5 := Lib.hid ho; have HB5 := Lib.hid hb; clear ho hb)
  obtain ⟨A5, c5, hv5⟩ := Kd.R_slice HO5.out
  have e6s : (L.drop 6 ++ [0]).length = 6 := by rw [List.length_append, HE6.out.2]; rfl
  rw [e6s] at hv5
  subst hv5
  have HC5 := Kd.R_reads' HO5.out
  have H2 := feed_calls b A2 c2 (L.take 6) (L.drop 6 ++ [0]) (L ++ [0]) (by rw [← List.append_assoc, List.take_append_drop]) A5 c5 w5 w.heap.size (fun k => g ≤ k) (by rw [HE6.out.1]; exact HBX3.out.keep HB5.out) (by rw [HE6.out.1]; exact self_R (Kd.R_below HL3.out HB5.out) (by have := HWB.out; have := HG.out; omega)) (fun k h => by have := HG.out; omega) HWB.out HC5.2.2 (by rw [e6s]; exact HC5.2.1) (HBy.out.take 6) ((HBy.out.drop 6).append (by unfold Bytes; decide)) (by rw [e6s, HE6.out.1]; omega)
  rw [e6s] at H2
  replace H2 := Lib.hid H2
  replace HR3 := Lib.hid (Kd.R_below HR3.out HB5.out)
  replace HB3 := Lib.hid (below_then HB3.out HB3.out.size HB5.out)
  clear HO5 HC5 e6s HR4 HBl HL3 HBX3 HZ4
  go_wp2_with fail
  refine H2.out.mono ?_
  rintro e w6 ⟨v, A6, c6, g6, he, hg, hv, hbx, _, hl, hel, hbel⟩
  rw [HF2.out] at he hv hbx hl
  obtain ⟨A7, c7, rfl⟩ := Kd.R_slice hv
  replace he : e = .returned (.tuple #[.slice A7 1 c7, .int .i64 0]) := he
  subst he
  replace HB3 := Lib.hid (hbel w.heap.size w (Nat.le_refl _) HB3.out)
  have HV := Lib.hid (Kd.R_reads' hv)
  have HBX := Lib.hid (show RB w6 b false A6 1 c6 from hbx)
  have HLf := Lib.hid (left_calls HBX.out (by decide))
  replace HR3 := Lib.hid (Kd.R_step HR3.out (fun k hk hlt => hel.2 k hlt (Nat.ne_of_lt hk) (by have := HG.out; omega)))
  clear hg hv hbx hl hel hbel H2 HBX
  go_wp2_with fail
  refine HLf.out.mono ?_
  rintro e w' ⟨rfl, rfl⟩
  clear HLf
  have HSF : Hid (∀ W A c, Kd.C k27 W A7 1 [⟨5, [97, 98]⟩] → 1 ≤ c → Kd.C k27 W A 1 [⟨5, [97, 98]⟩] → Calls Try.prog 15 #[.slice A7 1 c7, .slice A 1 c] W fun e w' => e = .returned (.bool true) ∧ Drawn0 W w') :=
    Lib.hid (fun W A c h h1 h2 => musterlow_SameFrames.calls 5 A7 c7 [⟨5, [97, 98]⟩] A c [⟨5, [97, 98]⟩] true W h HV.out.2.1 h2 h1 (by decide +kernel))
  go_wp2_with fail
  refine (HSF.out _ _ _ ?h1 ?h2 ?h3).mono ?_
  case h1 => exact Kd.C_alloc (Kd.C_alloc HV.out.2.2 _) _
  case h2 => exact Nat.le_refl _
  case h3 => exact one_C k27 _ _ ⟨5, [97, 98]⟩ [.int .u8 5, .slice (some ⟨w6.heap.size, 0, none⟩) 2 2] 27 (by decide) (k27_mk _ (⟨5, [97, 98]⟩ : Fr) (Nat.le_refl _) (Kd.C_alloc (Low.const_reads w6 [97, 98] (2, 3) (by decide)) _)) (by rw [← World.size_alloc w6 (.cells #[.int .u8 97, .int .u8 98] 5 (2, 3))]; exact blk_new _ _)
  rintro e w7 ⟨rfl, hd⟩
  have HB7 := Lib.hid (below_then (below_alloc (below_alloc (Below.refl w6.heap.size w6) _) _) (by simp only [World.size_alloc]; omega) hd.below)
  replace HR3 := Lib.hid (Kd.R_below HR3.out HB7.out)
  replace HB3 := Lib.hid (below_then HB3.out HB3.out.size HB7.out)
  clear hd HB7 HV HSF
  have HC7 := Low.take_C (Kd.R_reads' HR3.out).2.2 7 (by rw [HL.out]; decide)
  rw [HS7.out] at HC7
  replace HC7 := Lib.hid HC7
  have HSB : Hid (∀ W A c, Below w7.heap.size w7 W → Kd.C ku8 W A 7 [0, 0, 0, 3, 5, 97, 98] → Calls Try.prog 19 #[.slice (some ⟨gA, 0, none⟩) 7 c1, .slice A 7 c] W fun e w' => e = .returned (.bool true) ∧ Drawn0 W w') :=
    Lib.hid (fun W A c hb h2 => by
      have h := Low.same_calls (some ⟨gA, 0, none⟩) c1 [0, 0, 0, 3, 5, 97, 98] A c [0, 0, 0, 3, 5, 97, 98] W (Kd.C_below HC7.out hb) h2 (by decide) (by decide)
      rw [decide_eq_true rfl] at h
      exact h)
  go_wp2_with fail
  refine (HSB.out _ _ _ ?g1 ?g2).mono ?_
  case g1 => exact below_alloc (Below.refl _ _) _
  case g2 => exact Low.const_reads w7 [0, 0, 0, 3, 5, 97, 98] (0, 0) (by decide)
  rintro e w8 ⟨rfl, hd⟩
  have HB8 := Lib.hid (below_then HB3.out HB3.out.size (below_then (below_alloc (Below.refl w7.heap.size w7) _) (by simp) hd.below))
  clear hd
  go_wp2
  go_ret
  exact ⟨rfl, HB8.out⟩
end Go.Proofs.Ytajlmjmhkhdmdaa.PF
