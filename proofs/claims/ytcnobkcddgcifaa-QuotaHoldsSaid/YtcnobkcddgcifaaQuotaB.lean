/- quota.count, used, Qos: what runs is counted. (A part of the print PT.) -/
import Derived.Test.YtcnobkcddgcifaaQuota
import Derived.Test.YtcnobkcddgcifaaQuotaP
import Derived.Test.YtcnobkcddgcifaaPlainTreeQ
import Derived.Test.YtcnobkcddgcifaaWGuard
import Derived.Deep.MidRow
set_option linter.unusedVariables false
set_option linter.unusedSimpArgs false
namespace Go.Proofs.Ytcnobkcddgcifaa.PT
open Go.RowKit Go.Proofs.YtcnobkcddgcifaaW.PrintWords Go.Proofs.YtcnobkcddgcifaaW.PrintLast Go.Proofs.YtcnobkcddgcifaaW.PrintMore Go.Proofs.Ytcnobkcddgcifaa.Gen Go.Proofs.Ytcnobkcddgcifaa.EvK
theorem infoJob : (Try.prog.info? 53).map (·.size) = some 17 := by kernel_rfl
theorem infoSpec : (Try.prog.info? 32).map (·.size) = some 8 := by kernel_rfl
def specC (x : S32) (A : Option Addr) (c : Nat) : Array Value := #[.string x.f0, .string x.f1, .string x.f2, .string x.f3, .int .i64 x.f4, .int .i64 x.f5, .int .i64 x.f6, .slice A x.f7.length c]
def jobC (x : S53) (A : Option Addr) (c : Nat) : Array Value := #[.int .i64 x.f0, .int .i64 x.f1, .int .i64 x.f2, .string x.f3.f0, .string x.f3.f1, .string x.f3.f2, .string x.f3.f3, .int .i64 x.f3.f4, .int .i64 x.f3.f5, .int .i64 x.f3.f6, .slice A x.f3.f7.length c, .int .u8 x.f4, .int .i64 x.f5, .int .i64 x.f6, .int .i64 x.f7, .int .u32 x.f8, .int .i64 x.f9]
theorem spec_ld {w : World} {g : Nat} {x : S53} {A : Option Addr} {c : Nat} (h : w.heap[g]? = some (.cells (jobC x A c) 53 (0, 0))) : (Instr.loadAt 32 (.pointer (some ⟨g, 3, none⟩))).run Try.prog w = .ok (.agg (specC x.f3 A c)) w := by
  refine (run_loadAt_mid (P := Try.prog) w g 3 32 (specC x.f3 A c).toList _ ?_ Try.underlying32 rfl infoSpec)
  intro j v hv
  rw [blk_cell h]
  match j, hv with
  | 0, hv => exact hv
  | 1, hv => exact hv
  | 2, hv => exact hv
  | 3, hv => exact hv
  | 4, hv => exact hv
  | 5, hv => exact hv
  | 6, hv => exact hv
  | 7, hv => exact hv
  | j + 8, hv => simp [specC] at hv
set_option maxRecDepth 100000 in
set_option maxHeartbeats 4000000 in
theorem count_calls (l : List S53) (A : Option Addr) (c : Nat) (w : World) (hr : Kd.C k53 w A l.length l) (hc : l.length ≤ c) (T : Tame l) (g : FuncId) (caps : Array Value) (he : ∀ args w, (callFunc g args).run Try.prog w = .ok (.enter g args) w) (p : S32 → Bool)
    (hf : ∀ (x : S32) (A7 : Option Addr) (c7 : Nat) (W : World), Below w.heap.size w W → Calls Try.prog g (#[.agg (specC x A7 c7)] ++ caps) W fun e w2 => e = .returned (.bool (p x)) ∧ Below W.heap.size W w2) :
    Calls Try.prog 34 #[.slice A l.length c, .func (.func g) #[] caps] w fun e w' => e = .returned (.tuple #[.int .i64 (sumQ p l), .int .i64 (numQ p l : Nat)]) ∧ Below w.heap.size w w' := by
  have hln : l.length ≤ 9223372036854775807 := hr.2.1
  have HR := Lib.hid hr
  have HT := Lib.hid T
  have HF := Lib.hid hf
  have HB0 := Lib.hid (Below.refl w.heap.size w)
  clear hr hc T hf
  go_enter Try.func34, Try.ntmps34
  go_wp2
  go_loopw [6, 7, 12] (fun v6 v7 v12 wr => ∃ (j : Nat) (s : Int) (n : Nat), j ≤ l.length ∧ v6 = .int .i64 s ∧ v7 = .int .i64 n ∧ v12 = .int .i64 j ∧ Hid (s = sumQ p (l.take j) ∧ n = numQ p (l.take j)) ∧ Hid (Below w.heap.size w wr)) (fun _ _ v12 _ => l.length - (intOf v12).toNat)
  case atStart => exact ⟨0, 0, 0, Nat.zero_le _, rfl, rfl, rfl, Lib.hid ⟨rfl, rfl⟩, HB0⟩
  case round =>
    obtain ⟨j, s, n, hj, rfl, rfl, rfl, HV, HB⟩ := hrel
    by_cases hlt : j < l.length
    · obtain ⟨ad, cs, e1, hK, hld0⟩ := load_mid (t := 53) Try.underlying53 rfl infoJob HR.out j hlt
      obtain ⟨x, hx⟩ : ∃ x, x = l[j] := ⟨_, rfl⟩
      rw [← hx] at hK
      have hbs := HT.out.take (p := p) j
      have htm := HT.out.1 l[j] (List.getElem_mem hlt)
      have hln2 := HT.out.2
      have hst := sum_take p l j hlt
      have hnt := num_take p l j hlt
      rw [← HV.out.1] at hst hbs
      rw [← HV.out.2] at hnt hbs
      rw [← hx] at hst hnt htm
      have HST := Lib.hid (And.intro hst hnt)
      have htm2 := (tame_iff _).1 htm
      have hmr := mul_range htm2.1 htm2.2.1 htm2.2.2.1 htm2.2.2.2
      clear hx hst hnt htm htm2
      obtain ⟨A10, c10, rfl, l10, g10⟩ := k53_open hK
      clear hK l10 g10
      have hld : (Instr.loadAt 53 (.pointer (some (ad.add (j * 17))))).run Try.prog wr = .ok (.agg (jobC x A10 c10)) wr := hld0 wr HB.out
      clear hld0
      cases e1
      unfold jobC at hld
      go_upto_region 5 with ((with_reducible refine gate_ (.load 53 (.tmp 14)) rfl ?_); refine wl_load 53 (.tmp 14) rfl rfl _ _ rfl hld ?_)
      have HO : Hid ((wr.alloc (.cells (jobC x A10 c10) 53)).heap[wr.heap.size]? = some (.cells (jobC x A10 c10) 53 (0, 0))) := Lib.hid (heap_alloc_new wr _)
      have HB6 := Lib.hid (below_then HB.out HB.out.size (below_alloc (Below.refl wr.heap.size wr) (.cells (jobC x A10 c10) 53)))
      unfold jobC at HO HB6
      clear hld HB
      generalize wr.alloc _ = W6 at HO HB6 ⊢
      obtain ⟨gb, hgb⟩ : ∃ g, g = wr.heap.size := ⟨_, rfl⟩
      rw [← hgb] at HO ⊢
      clear hgb
      have c11 : W6.cell? ⟨gb, 11, none⟩ = some (.int .u8 x.f4) := (blk_cell HO.out 11).trans rfl
      have hldS := spec_ld (x := x) (A := A10) (c := c10) HO.out
      cases hs : (x.f4 == 2) with
      | false =>
        have HH : Hid (hit p x = false) := Lib.hid (by unfold hit; rw [hs]; rfl)
        go_wp2
        go_roundw
        case rel => exact ⟨j + 1, s, n, by omega, rfl, rfl, by go_num, Lib.hid (by
          have h1 := HST.out
          rw [h1.1, h1.2]
          unfold oneQ
          rw [HH.out]
          simp), HB6⟩
        case measure => simp [intOf]; omega
      | true =>
        go_wp2_with (first | ((with_reducible refine gate_ (.load 32 (.tmp 21)) rfl ?_); (refine gate_guard (by rfl) ?_; dsimp only); refine wl_load 32 (.tmp 21) rfl rfl _ _ rfl hldS ?_) | fail)
        refine (HF.out x.f3 A10 c10 W6 HB6.out).mono ?_
        rintro e w1 ⟨rfl, hb⟩
        have HO1 := Lib.hid ((hb.block gb (blk_lt HO.out)).trans HO.out)
        have HB1 := Lib.hid (below_then HB6.out HB6.out.size hb)
        clear hb hldS c11
        cases hp : p x.f3 with
        | false =>
          have HH : Hid (hit p x = false) := Lib.hid (by unfold hit; rw [hs, hp]; rfl)
          go_wp2
          go_roundw
          case rel => exact ⟨j + 1, s, n, by omega, rfl, rfl, by go_num, Lib.hid (by
            have h1 := HST.out
            rw [h1.1, h1.2]
            unfold oneQ
            rw [HH.out]
            simp), HB1⟩
          case measure => simp [intOf]; omega
        | true =>
          have HH : Hid (hit p x = true) := Lib.hid (by unfold hit; rw [hs, hp]; rfl)
          have c7 : w1.cell? ⟨gb, 7, none⟩ = some (.int .i64 x.f3.f4) := (blk_cell HO1.out 7).trans rfl
          have c8 : w1.cell? ⟨gb, 8, none⟩ = some (.int .i64 x.f3.f5) := (blk_cell HO1.out 8).trans rfl
          obtain ⟨m, hm⟩ : ∃ m, m = x.f3.f4 * x.f3.f5 := ⟨_, rfl⟩
          have hm2 := hm.symm
          rw [← hm] at hmr
          have v1 : IntKind.i64.wrap m = m := by rw [IntKind.wrap_i64]; omega
          have v2 : IntKind.i64.wrap (s + m) = s + m := by rw [IntKind.wrap_i64]; omega
          have v3 : IntKind.i64.wrap ((n : Int) + 1) = (n : Int) + 1 := by rw [IntKind.wrap_i64]; omega
          have u1 : wrap64 m = m := by unfold wrap64; omega
          have u2 : wrap64 (s + m) = s + m := by unfold wrap64; omega
          have u3 : wrap64 ((n : Int) + 1) = (n : Int) + 1 := by unfold wrap64; omega
          have HM := Lib.hid hm
          clear hm
          go_wp2
          go_roundw
          case rel => exact ⟨j + 1, s + m, n + 1, by omega, rfl, by go_num, by go_num, Lib.hid (by
            have h1 := HST.out
            rw [h1.1, h1.2]
            unfold oneQ
            rw [HH.out, HM.out]
            simp), HB1⟩
          case measure => simp [intOf]; omega
    · obtain rfl : j = l.length := by omega
      have HE : Hid (s = sumQ p l ∧ n = numQ p l) := Lib.hid (by have := HV.out; rwa [List.take_length] at this)
      clear HV
      go_wp2
      go_ret2
      exact ⟨by rw [HE.out.1, HE.out.2]; rfl, HB.out⟩
end Go.Proofs.Ytcnobkcddgcifaa.PT
