/- Texts of this claim, laid together: QuotaC, PTx42, TreeC, QuotaRR, PTx43. -/
import Derived.Lib.MapLaws
import Derived.Deep.RegionHeld3
import Derived.Test.YtcnobkcddgcifaaPkT0
import Derived.Test.YtcnobkcddgcifaaPkT1
import Derived.Test.YtcnobkcddgcifaaPkT2
import Derived.Test.YtcnobkcddgcifaaPkT3
/- quota.used, Cores, Qos. (A part of the print PT.) -/
set_option linter.unusedVariables false
set_option linter.unusedSimpArgs false
namespace Go.Proofs.Ytcnobkcddgcifaa.PT
open Go.RowKit Go.Proofs.YtcnobkcddgcifaaW.PrintWords Go.Proofs.YtcnobkcddgcifaaW.PrintLast Go.Proofs.YtcnobkcddgcifaaW.PrintMore Go.Proofs.Ytcnobkcddgcifaa.Gen Go.Proofs.Ytcnobkcddgcifaa.EvK
theorem infoCfg : (Try.prog.info? 28).map (·.size) = some 5 := by kernel_rfl
theorem cfg_ld {w : World} {g : Nat} {A0 : Option Addr} {n0 c0 : Nat} {A1 : Option Addr} {n1 c1 : Nat} {A2 : Option Addr} {n2 c2 : Nat} {A3 : Option Addr} {n3 c3 : Nat} {pl : Int} (h : w.heap[g]? = some (.cells (cfgV A0 n0 c0 A1 n1 c1 A2 n2 c2 A3 n3 c3 pl) 28 (0, 0))) : (Instr.loadAt 28 (.pointer (some ⟨g, 0, none⟩))).run Try.prog w = .ok (.agg (cfgV A0 n0 c0 A1 n1 c1 A2 n2 c2 A3 n3 c3 pl)) w := by
  have hld := run_loadVar_row (P := Try.prog) w g 28 28 (cfgV A0 n0 c0 A1 n1 c1 A2 n2 c2 A3 n3 c3 pl) (0, 0) _ h Try.underlying28 rfl infoCfg
  simp only [Instr.loadAt, Instr.sureAddr, Sem.run_bind, Sem.run_pure, Result.andThen_ok, hld]
set_option maxRecDepth 100000 in
theorem used1_calls (x : S32) (A7 : Option Addr) (c7 b : Nat) (B : List ByteArray) (AB : Option Addr) (cB : Nat) (w : World) (h : w.cell? ⟨b, 0, none⟩ = some (.slice AB B.length cB)) (hr : Kd.C Kd.string w AB B.length B) (hc : B.length ≤ cB) (hB : B.length < 9000000000000000000) :
    Calls Try.prog 54 #[.agg (specC x A7 c7), .pointer (some ⟨b, 0, none⟩)] w fun e w' => e = .returned (.bool (hasB B x.f1)) ∧ Below w.heap.size w w' := by
  have ho : ∀ o, (w.alloc o).cell? ⟨b, 0, none⟩ = some (.slice AB B.length cB) := fun o => ((below_alloc (Below.refl _ w) o).cell (World.block_lt_of_cell? w _ h)).trans h
  have HB := Lib.hid (below_alloc (Below.refl _ w) (.cells (specC x A7 c7) 32))
  have HC := Lib.hid (fun W (hb : Below w.heap.size w W) => (Ev.the (contains_ev B x.f1 hB)).elim fun k hk => slices_Contains_string_string.calls k AB cB B x.f1 (hasB B x.f1) W (Kd.C_below hr hb) hc hk)
  unfold specC at HB ⊢
  clear h hr hc hB
  obtain ⟨n, hn⟩ : ∃ n, n = B.length := ⟨_, rfl⟩
  rw [← hn] at ho
  have HN := Lib.hid hn
  clear hn
  go_enter Try.func54, Try.ntmps54
  go_wp2_with fail
  rw [HN.out]
  refine (HC.out _ HB.out).mono ?_
  rintro e w1 ⟨rfl, hd⟩
  have HB1 := Lib.hid (below_then HB.out HB.out.size hd.below)
  clear hd HC
  obtain ⟨t, ht⟩ : ∃ t, t = hasB B x.f1 := ⟨_, rfl⟩
  rw [← ht]
  have HT := Lib.hid ht
  clear ht
  go_wp2
  go_ret
  exact ⟨by rw [← HT.out]; rfl, HB1.out⟩
set_option maxRecDepth 100000 in
theorem qos1_calls (x : S32) (A7 : Option Addr) (c7 b : Nat) (name : ByteArray) (w : World) (h : w.cell? ⟨b, 0, none⟩ = some (.string name)) :
    Calls Try.prog 35 #[.agg (specC x A7 c7), .pointer (some ⟨b, 0, none⟩)] w fun e w' => e = .returned (.bool (x.f2.toList == name.toList)) ∧ Below w.heap.size w w' := by
  have ho : ∀ o, (w.alloc o).cell? ⟨b, 0, none⟩ = some (.string name) := fun o => ((below_alloc (Below.refl _ w) o).cell (World.block_lt_of_cell? w _ h)).trans h
  have HB := Lib.hid (below_alloc (Below.refl _ w) (.cells (specC x A7 c7) 32))
  unfold specC at HB ⊢
  clear h
  go_enter Try.func35, Try.ntmps35
  go_wp2
  go_ret
  exact ⟨rfl, HB.out⟩
/-- What an account's jobs use. -/
def usedQ (ac : List S57) (l : List S53) (a : ByteArray) : Int := sumQ (fun s => hasB (belowA ac a).1 s.f1) l
def qosP (name : ByteArray) (s : S32) : Bool := s.f2.toList == name.toList
theorem belowA_len (ac : List S57) (a : ByteArray) : (belowA ac a).1.length ≤ ac.length := by
  unfold belowA
  split
  · split
    · exact belA_len ac a ac.length
    · exact Nat.zero_le _
  · exact Nat.zero_le _
set_option maxRecDepth 100000 in
set_option maxHeartbeats 4000000 in
theorem used_calls {w : World} {cs : Array Value} {q : List S59} {ac : List S57} (h : Cfg w cs q ac) (has : ac.length < 9000000000000000000) (l : List S53) (A : Option Addr) (c : Nat) (a : ByteArray) (hr : Kd.C k53 w A l.length l) (hc : l.length ≤ c) (T : Tame l) :
    Calls Try.prog 29 #[.agg cs, .slice A l.length c, .string a] w fun e w' => e = .returned (.int .i64 (usedQ ac l a)) ∧ Below w.heap.size w w' := by
  obtain ⟨A0, c0, l0, A1, c1, l1, A2, c2, A3, c3, pl, rfl, h0, h1, h2, h3, h4, h5, h6, h7⟩ := h.is
  have hmf : ∀ (fn : Fn) (first cap : Array Value) (w : World), (Instr.makeFunc fn first cap).run Try.prog w = .ok (.func fn first cap) w := fun _ _ _ _ => rfl
  have he : ∀ args w, (callFunc 54 args).run Try.prog w = .ok (.enter 54 args) w := enters_of Try.func54 (by kernel_rfl) rfl
  have hBl := belowA_len ac a
  have HU : Hid (usedQ ac l a = sumQ (fun s => hasB (belowA ac a).1 s.f1) l) := Lib.hid rfl
  obtain ⟨⟨B, z⟩, hB⟩ : ∃ r, r = belowA ac a := ⟨_, rfl⟩
  rw [← hB] at HU hBl
  have HBw := Lib.hid (fun W (hb : Below w.heap.size w W) => (Ev.the (below_ev ac a)).elim fun k hk => tree_Below.calls k A2 c2 ac a B z W (Kd.C_below h4 hb) h5 (by rw [hB]; exact hk))
  have HCt := Lib.hid (fun W (hb : Below w.heap.size w W) (b : Nat) (AB : Option Addr) (cB : Nat) (h1 : W.cell? ⟨b, 0, none⟩ = some (.slice AB B.length cB)) (h2 : Kd.C Kd.string W AB B.length B) (h3 : B.length ≤ cB) =>
    count_calls l A c W (Kd.C_below hr hb) hc T 54 #[.pointer (some ⟨b, 0, none⟩)] he (fun s => hasB B s.f1) (fun x A7 c7 W1 hb1 => used1_calls x A7 c7 b B AB cB W1 ((hb1.cell (World.block_lt_of_cell? W _ h1)).trans h1) (Kd.C_below h2 hb1) h3 (by simp only at hBl; omega)))
  clear h hr hc T h0 h1 h2 h3 h4 h5 h6 h7 hB hBl
  unfold cfgV
  have HB0 := Lib.hid (below_alloc (Below.refl _ w) (.cells #[.slice A0 l0.length c0, .slice A1 l1.length c1, .slice A2 ac.length c2, .slice A3 q.length c3, .int .u8 pl] 28))
  go_enter Try.func29, Try.ntmps29
  go_wp2_with fail
  refine (HBw.out _ HB0.out).mono ?_
  rintro e w1 ⟨v0, rfl, ho, hb⟩
  obtain ⟨AB, cB, hv⟩ := Kd.R_slice ho
  subst hv
  have hrd := Kd.R_reads' ho
  have HR := Lib.hid hrd
  have HB1 := Lib.hid (below_then HB0.out HB0.out.size hb)
  clear ho hb hrd HBw HB0
  obtain ⟨n, hn⟩ : ∃ n, n = B.length := ⟨_, rfl⟩
  rw [← hn]
  have HN := Lib.hid hn
  clear hn
  go_wp2_with fail
  have hBx := below_alloc (Below.refl _ w1) (.cells #[.slice AB n cB] 70)
  refine (HCt.out _ (below_then HB1.out HB1.out.size hBx) w1.heap.size AB cB (by rw [HN.out]; exact new_one w1 _ _) (Kd.C_below HR.out.2.2 hBx) HR.out.2.1).mono ?_
  rintro e w2 ⟨rfl, hb⟩
  have HB2 := Lib.hid (below_then (below_then HB1.out HB1.out.size hBx) (below_then HB1.out HB1.out.size hBx).size hb)
  clear hb hBx HCt
  obtain ⟨S, hS⟩ : ∃ S, S = sumQ (fun s => hasB B s.f1) l := ⟨_, rfl⟩
  rw [← hS]
  have HS := Lib.hid hS
  clear hS
  go_wp2
  go_ret
  exact ⟨by rw [HU.out, ← HS.out]; rfl, HB2.out⟩
def coresQ (q : List S59) (ac : List S57) (l : List S53) (a : ByteArray) : Int × Int := if rightQ q ac = true then (if (findA ac a).2 = true then (usedQ ac l a, 0) else (0, 141)) else (0, 2)
def qosQ (q : List S59) (ac : List S57) (l : List S53) (name : ByteArray) : Int × Int × Int := if rightQ q ac = true then (if q.any (isQ name) = true then (sumQ (qosP name) l, ((numQ (qosP name) l : Nat) : Int), 0) else (0, 0, 141)) else (0, 0, 2)
set_option maxRecDepth 100000 in
set_option maxHeartbeats 4000000 in
theorem cores_calls {w : World} {cs : Array Value} {q : List S59} {ac : List S57} (h : Cfg w cs q ac) (has : ac.length < 9000000000000000000) (l : List S53) (A : Option Addr) (c : Nat) (a : ByteArray) (hr : Kd.C k53 w A l.length l) (hc : l.length ≤ c) (T : Tame l) :
    Calls Try.prog 11 #[.agg cs, .slice A l.length c, .string a] w fun e w' => e = .returned (.tuple #[.int .i64 (coresQ q ac l a).1, .int .i64 (coresQ q ac l a).2]) ∧ Below w.heap.size w w' := by
  have HRt := Lib.hid (fun W (hb : Below w.heap.size w W) => cright_calls (h.below hb))
  have HUs := Lib.hid (fun W (hb : Below w.heap.size w W) => used_calls (h.below hb) has l A c a (Kd.C_below hr hb) hc T)
  obtain ⟨A0, c0, l0, A1, c1, l1, A2, c2, A3, c3, pl, rfl, h0, h1, h2, h3, h4, h5, h6, h7⟩ := h.is
  have HFd := Lib.hid (fun W (hb : Below w.heap.size w W) => find_calls ac A2 c2 a W (Kd.C_below h4 hb) h5)
  have HV : Hid (coresQ q ac l a = if rightQ q ac = true then (if (findA ac a).2 = true then (usedQ ac l a, 0) else (0, 141)) else (0, 2)) := Lib.hid rfl
  clear h hr hc T h0 h1 h2 h3 h4 h5 h6 h7 has
  have HO : Hid ((w.alloc (.cells (cfgV A0 l0.length c0 A1 l1.length c1 A2 ac.length c2 A3 q.length c3 pl) 28)).heap[w.heap.size]? = some (.cells (cfgV A0 l0.length c0 A1 l1.length c1 A2 ac.length c2 A3 q.length c3 pl) 28 (0, 0))) := Lib.hid (heap_alloc_new w _)
  have HB := Lib.hid (below_alloc (Below.refl w.heap.size w) (.cells (cfgV A0 l0.length c0 A1 l1.length c1 A2 ac.length c2 A3 q.length c3 pl) 28))
  go_enter Try.func11, Try.ntmps11
  go_upto_region 1 with (fail)
  generalize w.alloc _ = W at HO HB ⊢
  obtain ⟨g, hg⟩ : ∃ g, g = w.heap.size := ⟨_, rfl⟩
  rw [← hg] at HO ⊢
  clear hg
  go_wp2_with (first | ((with_reducible refine gate_ (.load 28 (.tmp 3)) rfl ?_); refine wl_load 28 (.tmp 3) rfl rfl _ _ rfl (cfg_ld HO.out) ?_) | fail)
  refine (HRt.out _ HB.out).mono ?_
  rintro e w1 ⟨rfl, hb⟩
  have HO1 := Lib.hid ((hb.block g (blk_lt HO.out)).trans HO.out)
  have HB1 := Lib.hid (below_then HB.out HB.out.size hb)
  clear hb HRt HO HB
  cases hq : rightQ q ac with
  | false =>
    have HE : Hid (coresQ q ac l a = (0, 2)) := Lib.hid (by rw [HV.out, hq]; rfl)
    go_wp2
    go_ret2
    exact ⟨by rw [HE.out]; rfl, HB1.out⟩
  | true =>
    have c2' : w1.cell? ⟨g, 2, none⟩ = some (.slice A2 ac.length c2) := (blk_cell HO1.out 2).trans rfl
    have HQ := Lib.hid hq
    clear hq
    go_wp2_with fail
    refine (HFd.out _ HB1.out).mono ?_
    rintro e w2 ⟨rfl, hb⟩
    have HO2 := Lib.hid ((hb.block g (blk_lt HO1.out)).trans HO1.out)
    have HB2 := Lib.hid (below_then HB1.out HB1.out.size hb)
    clear hb HFd HO1 HB1 c2'
    obtain ⟨⟨p, t⟩, hf⟩ : ∃ r, r = findA ac a := ⟨_, rfl⟩
    rw [← hf]
    rw [← hf] at HV
    clear hf
    cases t with
    | false =>
      have HE : Hid (coresQ q ac l a = (0, 141)) := Lib.hid (by rw [HV.out, HQ.out]; rfl)
      go_wp2
      go_ret2
      exact ⟨by rw [HE.out]; rfl, HB2.out⟩
    | true =>
      have HE : Hid (coresQ q ac l a = (usedQ ac l a, 0)) := Lib.hid (by rw [HV.out, HQ.out]; rfl)
      go_wp2_with (first | ((with_reducible refine gate_ (.load 28 (.tmp 3)) rfl ?_); refine wl_load 28 (.tmp 3) rfl rfl _ _ rfl (cfg_ld HO2.out) ?_) | fail)
      refine (HUs.out _ HB2.out).mono ?_
      rintro e w3 ⟨rfl, hb⟩
      have HB3 := Lib.hid (below_then HB2.out HB2.out.size hb)
      clear hb HUs
      go_wp2
      go_ret2
      exact ⟨by rw [HE.out]; rfl, HB3.out⟩
set_option maxRecDepth 100000 in
set_option maxHeartbeats 4000000 in
theorem qos_calls {w : World} {cs : Array Value} {q : List S59} {ac : List S57} (h : Cfg w cs q ac) (l : List S53) (A : Option Addr) (c : Nat) (name : ByteArray) (hr : Kd.C k53 w A l.length l) (hc : l.length ≤ c) (T : Tame l) :
    Calls Try.prog 13 #[.agg cs, .slice A l.length c, .string name] w fun e w' => e = .returned (.tuple #[.int .i64 (qosQ q ac l name).1, .int .i64 (qosQ q ac l name).2.1, .int .i64 (qosQ q ac l name).2.2]) ∧ Below w.heap.size w w' := by
  have hmf : ∀ (fn : Fn) (first cap : Array Value) (w : World), (Instr.makeFunc fn first cap).run Try.prog w = .ok (.func fn first cap) w := fun _ _ _ _ => rfl
  have he : ∀ args w, (callFunc 35 args).run Try.prog w = .ok (.enter 35 args) w := enters_of Try.func35 (by kernel_rfl) rfl
  have HRt := Lib.hid (fun W (hb : Below w.heap.size w W) => cright_calls (h.below hb))
  obtain ⟨A0, c0, l0, A1, c1, l1, A2, c2, A3, c3, pl, rfl, h0, h1, h2, h3, h4, h5, h6, h7⟩ := h.is
  have HFd := Lib.hid (fun W (hb : Below w.heap.size w W) => qfind_calls q A3 c3 name W (Kd.C_below h6 hb) h7)
  have HCt := Lib.hid (fun W (hb : Below w.heap.size w W) (b : Nat) (h1 : W.cell? ⟨b, 0, none⟩ = some (.string name)) =>
    count_calls l A c W (Kd.C_below hr hb) hc T 35 #[.pointer (some ⟨b, 0, none⟩)] he (qosP name) (fun x A7 c7 W1 hb1 => qos1_calls x A7 c7 b name W1 ((hb1.cell (World.block_lt_of_cell? W _ h1)).trans h1)))
  have HV : Hid (qosQ q ac l name = if rightQ q ac = true then (if q.any (isQ name) = true then (sumQ (qosP name) l, ((numQ (qosP name) l : Nat) : Int), 0) else (0, 0, 141)) else (0, 0, 2)) := Lib.hid rfl
  clear h hr hc T h0 h1 h2 h3 h4 h5 h6 h7
  have HO : Hid (((w.alloc (.cells (cfgV A0 l0.length c0 A1 l1.length c1 A2 ac.length c2 A3 q.length c3 pl) 28)).alloc (.cells #[.string name] 9)).heap[w.heap.size]? = some (.cells (cfgV A0 l0.length c0 A1 l1.length c1 A2 ac.length c2 A3 q.length c3 pl) 28 (0, 0))) := Lib.hid (((below_alloc (Below.refl _ _) _).block _ (new_lt w _)).trans (heap_alloc_new w _))
  have HN : Hid (((w.alloc (.cells (cfgV A0 l0.length c0 A1 l1.length c1 A2 ac.length c2 A3 q.length c3 pl) 28)).alloc (.cells #[.string name] 9)).cell? ⟨w.heap.size + 1, 0, none⟩ = some (.string name)) := Lib.hid (by rw [← World.size_alloc w (.cells (cfgV A0 l0.length c0 A1 l1.length c1 A2 ac.length c2 A3 q.length c3 pl) 28)]; exact new_one _ _ _)
  have HB := Lib.hid (below_alloc (below_alloc (Below.refl w.heap.size w) (.cells (cfgV A0 l0.length c0 A1 l1.length c1 A2 ac.length c2 A3 q.length c3 pl) 28)) (.cells #[.string name] 9))
  go_enter Try.func13, Try.ntmps13
  go_upto_region 1 with (fail)
  generalize (w.alloc _).alloc _ = W at HO HN HB ⊢
  obtain ⟨g, hg⟩ : ∃ g, g = w.heap.size := ⟨_, rfl⟩
  rw [← hg] at HO HN ⊢
  clear hg
  go_wp2_with (first | ((with_reducible refine gate_ (.load 28 (.tmp 3)) rfl ?_); refine wl_load 28 (.tmp 3) rfl rfl _ _ rfl (cfg_ld HO.out) ?_) | fail)
  refine (HRt.out _ HB.out).mono ?_
  rintro e w1 ⟨rfl, hb⟩
  have HO1 := Lib.hid ((hb.block g (blk_lt HO.out)).trans HO.out)
  have HN1 := Lib.hid (pw_cell_below hb HN.out)
  have HB1 := Lib.hid (below_then HB.out HB.out.size hb)
  clear hb HRt HO HB HN
  cases hq : rightQ q ac with
  | false =>
    have HE : Hid (qosQ q ac l name = (0, 0, 2)) := Lib.hid (by rw [HV.out, hq]; rfl)
    go_wp2
    go_ret3
    exact ⟨by rw [HE.out]; rfl, HB1.out⟩
  | true =>
    have c3' : w1.cell? ⟨g, 3, none⟩ = some (.slice A3 q.length c3) := (blk_cell HO1.out 3).trans rfl
    have cn : w1.cell? ⟨g + 1, 0, none⟩ = some (.string name) := HN1.out
    have HQ := Lib.hid hq
    clear hq
    go_wp2_with fail
    refine (HFd.out _ HB1.out).mono ?_
    rintro e w2 ⟨rfl, hb⟩
    have HN2 := Lib.hid (pw_cell_below hb HN1.out)
    have HB2 := Lib.hid (below_then HB1.out HB1.out.size hb)
    have HG := Lib.hid (idxOf_ge q (isQ name))
    clear hb HFd HO1 HB1 HN1 c3' cn
    obtain ⟨i, hi⟩ : ∃ i, i = idxOf q (isQ name) := ⟨_, rfl⟩
    rw [← hi] at HG ⊢
    clear hi
    by_cases hneg : i < 0
    · have HE : Hid (qosQ q ac l name = (0, 0, 141)) := Lib.hid (by rw [HV.out, HQ.out, ← HG.out, decide_eq_false (by omega : ¬ i ≥ 0)]; rfl)
      go_wp2
      go_ret3
      exact ⟨by rw [HE.out]; rfl, HB2.out⟩
    · have HE : Hid (qosQ q ac l name = (sumQ (qosP name) l, ((numQ (qosP name) l : Nat) : Int), 0)) := Lib.hid (by rw [HV.out, HQ.out, ← HG.out, decide_eq_true (by omega : i ≥ 0)]; rfl)
      go_wp2_with fail
      refine (HCt.out _ HB2.out (g + 1) HN2.out).mono ?_
      rintro e w3 ⟨rfl, hb⟩
      have HB3 := Lib.hid (below_then HB2.out HB2.out.size hb)
      clear hb HCt
      go_wp2
      go_ret3
      exact ⟨by rw [HE.out]; rfl, HB3.out⟩
def tameL (ac : List S57) (l : List S53) : Bool := l.all (fun x => tameS x.f3) && decide (l.length ≤ 1000000) && decide (ac.length < 9000000000000000000)
theorem tameL_iff {ac : List S57} {l : List S53} : tameL ac l = true ↔ Tame l ∧ ac.length < 9000000000000000000 := by
  unfold tameL Tame
  rw [Bool.and_eq_true, Bool.and_eq_true, decide_eq_true_iff, decide_eq_true_iff, List.all_eq_true]
end Go.Proofs.Ytcnobkcddgcifaa.PT
-- printed by wprint.py (this session's program over the kit's print.py)
namespace Go.Proofs.Ytcnobkcddgcifaa.PT
open Go.RowKit Go.Proofs.YtcnobkcddgcifaaW.PrintWords Go.Proofs.YtcnobkcddgcifaaW.PrintLast Go.Proofs.YtcnobkcddgcifaaW.PrintMore
attribute [local go_sem] max2_int min2_int max_two min_two max_three min_three max_four min_four   -- for this text's walks alone
set_option linter.unusedVariables false
set_option linter.unusedSimpArgs false

/-! ### musterref15_quality: function 36 -/
def musterref15_quality.l0 : Nat → List (S59) → ByteArray → Int → Option (Int)
  | 0, _, _, _ => none
  | k + 1, x0, x1, x5 => if x5 < (x0.length : Int) then (if 0 ≤ x5 then (if ((rd_T59 x0 x5).f0).toList = x1.toList then (some x5) else (musterref15_quality.l0 k x0 x1 (wrap64 (x5 + 1)))) else (none)) else (some (-1))
def musterref15_quality.f (k : Nat) (l0 : List (S59)) (a1 : ByteArray) : Option (Int) := musterref15_quality.l0 k l0 a1 0
theorem musterref15_quality.mono_l : ∀ k, (∀ y0 y1 y2, LeO (musterref15_quality.l0 k y0 y1 y2) (musterref15_quality.l0 (k + 1) y0 y1 y2))
  | 0 => fun _ _ _ r h => by simp [musterref15_quality.l0] at h
  | k + 1 => by
    have ih0 := musterref15_quality.mono_l k
    · intro y0 y1 y2
      unfold musterref15_quality.l0
      repeat' first
      | (with_reducible exact ih0 _ _ _)
      | (with_reducible exact LeO.refl _)
      | (with_reducible exact LeO.none _)
      | (with_reducible refine LeO.ite ?_ ?_)
      | (with_reducible refine LeO.bind ?_ (fun _ => ?_))
      | exact ih0 _ _ _
      | exact LeO.none _
      | refine LeO.ite ?_ ?_
      | refine LeO.bind ?_ (fun _ => ?_)
theorem musterref15_quality.mono : ∀ a0 a1 k, LeO (musterref15_quality.f k a0 a1) (musterref15_quality.f (k + 1) a0 a1) := by
  intro a0 a1 k
  have ih0 := musterref15_quality.mono_l k
  unfold musterref15_quality.f
  repeat' first
      | (with_reducible exact ih0 _ _ _)
      | (with_reducible exact LeO.refl _)
      | (with_reducible exact LeO.none _)
      | (with_reducible refine LeO.ite ?_ ?_)
      | (with_reducible refine LeO.bind ?_ (fun _ => ?_))
      | exact ih0 _ _ _
      | exact LeO.none _
      | refine LeO.ite ?_ ?_
      | refine LeO.bind ?_ (fun _ => ?_)
set_option maxHeartbeats 8000000 in
set_option maxRecDepth 100000 in
theorem musterref15_quality.calls (k : Nat) (A0 : Option Addr) (c0 : Nat) (l0 : List (S59)) (a1 : ByteArray) (r : Int) (w : World) (hr0 : Kd.C k59 w A0 l0.length l0) (hc0 : l0.length ≤ c0) (h : musterref15_quality.f k l0 a1 = some r) :
    Calls Try.prog 36 #[.slice A0 l0.length c0, .string a1] w fun e w' => e = .returned (.int .i64 r) ∧ Drawn0 w w' := by
  have HR0 := Aside0.mk hr0
  have HC0 := Aside0.mk hc0
  clear hr0 hc0
  have H : (musterref15_quality.l0 k l0 a1 0) = some r := h
  clear h
  have H' := Aside0.mk H
  clear H
  go_enter Try.func36, Try.ntmps36
  go_wp2
  go_loopg [5] k (fun kq v5 w' => ∃ (x5_1 : Int), v5 = .int .i64 x5_1 ∧ Aside0 (musterref15_quality.l0 kq l0 a1 x5_1 = some r) ∧ Aside0 (kq ≤ k) ∧ Drawn0 w w')
  case atStart => exact ⟨(0), (by first | rfl | (simp; done) | (simp [*]; done)), H', ⟨Nat.le_refl _⟩, by repeat (first | exact Drawn0.refl _ | apply Drawn0.step)⟩
  case round =>
    clear H'
    try clear p2
    obtain ⟨x5_1, rfl, HA, HK1, ⟨m1, rfl⟩⟩ := hrel
    cases gk with
    | zero => exact absurd HA.out (by simp [musterref15_quality.l0])
    | succ k1 =>
      have H := HA.out
      clear HA
      simp only [musterref15_quality.l0] at H
      by_cases c3 : x5_1 < (l0.length : Int)
      · rw [if_pos c3] at H
        have c3b0 : decide (x5_1 < (l0.length : Int)) = true := decide_eq_true c3
        clear c3
        by_cases c4 : 0 ≤ x5_1
        · rw [if_pos c4] at H
          have c4b0 : decide (0 ≤ x5_1) = true := decide_eq_true c4
          clear c4
          by_cases c5 : ((rd_T59 l0 x5_1).f0).toList = a1.toList
          · rw [if_pos c5] at H
            have c5b0 : (((rd_T59 l0 x5_1).f0).toList == a1.toList) = true := beq_iff_eq.mpr c5
            have c5b1 : (((rd_T59 l0 x5_1).f0).toList != a1.toList) = false := bne_eq_false_iff_eq.mpr c5
            clear c5
            obtain rfl := Option.some.inj H
            have p336 : 0 ≤ (x5_1 : Int) := of_decide_eq_true (by first | (with_reducible assumption) | assumption)
            have q336 : x5_1 < (l0.length : Int) := of_decide_eq_true (by first | (with_reducible assumption) | assumption)
            obtain ⟨ad336, e336, hx336_0, hx336_1, hx336_2, hx336_3⟩ := at_T59 HR0.out x5_1 p336 q336
            cases e336
            replace p336 := eq_true p336
            replace q336 := eq_true q336
            go_wp2
            go_ret
            exact ⟨by first | rfl | (simp; done) | (simp [*]; done), by repeat (first | exact Drawn0.refl _ | apply Drawn0.step)⟩
          · rw [if_neg c5] at H
            have c5b0 : (((rd_T59 l0 x5_1).f0).toList == a1.toList) = false := beq_eq_false_iff_ne.mpr c5
            have c5b1 : (((rd_T59 l0 x5_1).f0).toList != a1.toList) = true := bne_iff_ne.mpr c5
            have H' := Aside0.mk H
            clear H
            have p336 : 0 ≤ (x5_1 : Int) := of_decide_eq_true (by first | (with_reducible assumption) | assumption)
            have q336 : x5_1 < (l0.length : Int) := of_decide_eq_true (by first | (with_reducible assumption) | assumption)
            obtain ⟨ad336, e336, hx336_0, hx336_1, hx336_2, hx336_3⟩ := at_T59 HR0.out x5_1 p336 q336
            cases e336
            replace p336 := eq_true p336
            replace q336 := eq_true q336
            go_wp2
            go_roundg k1
            case measure => have := HK1.out; omega
            case rel => exact ⟨(wrap64 (x5_1 + 1)), (by first | rfl | (simp; done) | (simp [*]; done)), H', ⟨by have := HK1.out; omega⟩, by repeat (first | exact Drawn0.refl _ | apply Drawn0.step)⟩
        · rw [if_neg c4] at H
          exact absurd H (by simp)
      · rw [if_neg c3] at H
        have c3b0 : decide (x5_1 < (l0.length : Int)) = false := decide_eq_false c3
        clear c3
        obtain rfl := Option.some.inj H
        go_wp2
        go_ret
        exact ⟨by first | rfl | (simp; done) | (simp [*]; done), by repeat (first | exact Drawn0.refl _ | apply Drawn0.step)⟩

end Go.Proofs.Ytcnobkcddgcifaa.PT
/- Tree: the document's Find, Name and Right are the program's. (A part of the print PT.) -/
set_option linter.unusedVariables false
set_option linter.unusedSimpArgs false
namespace Go.Proofs.Ytcnobkcddgcifaa.PT
open Go.RowKit Go.Proofs.YtcnobkcddgcifaaW.PrintWords Go.Proofs.YtcnobkcddgcifaaW.PrintLast Go.Proofs.YtcnobkcddgcifaaW.PrintMore Go.Proofs.Ytcnobkcddgcifaa.Gen Go.Proofs.Ytcnobkcddgcifaa.EvK
theorem findA_at {l : List S57} {name : ByteArray} {j : Nat} (hj : j < l.length) (h : ∀ i (hi : i < j), isName name (l[i]'(by omega)) = false) (hp : isName name l[j] = true) : findA l name = ((j : Int), true) := by
  unfold findA
  rw [idxOf_at hj h hp]
  have h1 : l.any (isName name) = true := List.any_eq_true.2 ⟨l[j], List.getElem_mem hj, hp⟩
  rw [h1]
  congr 1
  omega
theorem findA_none {l : List S57} {name : ByteArray} (h : ∀ i (hi : i < l.length), isName name l[i] = false) : findA l name = (0, false) := by
  unfold findA
  rw [idxOf_none h]
  have h1 : l.any (isName name) = false := by
    rw [List.any_eq_false]
    intro x hx
    obtain ⟨i, hi, rfl⟩ := List.mem_iff_getElem.1 hx
    simp [h i hi]
  rw [h1]
  rfl
theorem refFind_l0 (l : List S57) (name : ByteArray) (hl : l.length < 9000000000000000000) : ∀ d j, l.length - j = d → j ≤ l.length → (∀ i (hi : i < l.length), i < j → isName name l[i] = false) → Ev (fun k => musterref14_Find.l0 k l name (j : Int)) (findA l name)
  | 0, j, hd, hj, hn => Ev.stp (fun k => by rw [musterref14_Find.l0]) <| Ev.neg (by omega) <| Ev.one (by rw [findA_none (fun i hi => hn i hi (by omega))])
  | d + 1, j, hd, hj, hn => Ev.stp (fun k => by rw [musterref14_Find.l0]) <| Ev.pos (by omega) <| Ev.pos (by omega) <| by
    have hlt : j < l.length := by omega
    rw [rdA l j hlt]
    by_cases h : isName name l[j] = true
    · have h2 : l[j].f0.toList = name.toList := by unfold isName at h; simpa using h
      exact Ev.pos h2 (Ev.one (by rw [findA_at hlt (fun i hi => hn i (by omega) hi) h]))
    · have h2 : ¬ l[j].f0.toList = name.toList := by unfold isName at h; simpa using h
      refine Ev.neg h2 ?_
      rw [wr1 (by omega)]
      refine refFind_l0 l name hl d (j + 1) (by omega) (by omega) (fun i hi hij => ?_)
      rcases Nat.lt_or_ge i j with h3 | h3
      · exact hn i hi h3
      · obtain rfl : i = j := by omega
        simpa using h
theorem refFind_ev (l : List S57) (name : ByteArray) (hl : l.length < 9000000000000000000) : Ev (fun k => musterref14_Find.f k l name) (findA l name) := by
  have := refFind_l0 l name hl _ 0 rfl (by omega) (fun i _ h => by omega)
  exact this
/-! ### names -/
theorem get_bt (s : ByteArray) (i : Nat) (h : i < s.size) : ((s.get! i).toNat : Int) = bt s (i : Int) := by
  have h2 := bt_at s (i : Int) (by simpa using h)
  rw [← h2]
  have h3 : s.get! i = s[i] := by
    have : s.get! i = s.data[i]! := rfl
    rw [this, getElem!_pos s.data i h]
    rfl
  rw [h3]
  simp
theorem dec_low (s : ByteArray) (i : Nat) (h : (s.get! i).toNat < 128) : Utf8.decode s i = ((s.get! i).toNat, 1) := by
  rw [Lib.decode_at]
  rcases Lib.decodeN_shape (s.size - i) (s.get! i).toNat (s.get! (i + 1)).toNat (s.get! (i + 2)).toNat (s.get! (i + 3)).toNat with ⟨c, e⟩ | ⟨c1, c2, c3, cv, e⟩ | ⟨c1, c2, c3, c4, cv, cs, e⟩ | ⟨c1, c2, c3, c4, c5, cv, cw, e⟩ | e
  · exact e
  · omega
  · omega
  · omega
  · unfold Lib.decodeN at e ⊢
    rw [if_pos h]
theorem dec_high (s : ByteArray) (i : Nat) (h : 128 ≤ (s.get! i).toNat) : 128 ≤ (Utf8.decode s i).1 := by
  rw [Lib.decode_at]
  rcases Lib.decodeN_shape (s.size - i) (s.get! i).toNat (s.get! (i + 1)).toNat (s.get! (i + 2)).toNat (s.get! (i + 3)).toNat with ⟨c, e⟩ | ⟨c1, c2, c3, cv, e⟩ | ⟨c1, c2, c3, c4, cv, cs, e⟩ | ⟨c1, c2, c3, c4, c5, cv, cw, e⟩ | e <;> first | omega | (rw [e]; simp only; omega)
theorem badR_high {x : Nat} (h : 128 ≤ x) : badR x = true := by unfold badR; exact decide_eq_true (by omega)
theorem any_true (s : ByteArray) : ∀ f pos, s.size ≤ pos + f → ∀ i, pos ≤ i → i < s.size → badR (s.get! i).toNat = true → anyRune badR s f pos = true
  | 0, pos, hf, i, hi, hs, hb => by omega
  | f + 1, pos, hf, i, hi, hs, hb => by
    rw [anyRune, if_pos (by omega)]
    rcases Nat.lt_or_ge (s.get! pos).toNat 128 with h | h
    · rw [dec_low s pos h]
      simp only
      split
      · rfl
      · rename_i hn
        refine any_true s f (pos + 1) (by omega) i ?_ hs hb
        rcases Nat.lt_or_ge pos i with h2 | h2
        · omega
        · obtain rfl : i = pos := by omega
          exact absurd hb hn
    · rw [if_pos (badR_high (dec_high s pos h))]
theorem any_false (s : ByteArray) : ∀ f pos, (∀ i, pos ≤ i → i < s.size → badR (s.get! i).toNat = false) → anyRune badR s f pos = false
  | 0, pos, h => rfl
  | f + 1, pos, h => by
    rw [anyRune]
    split
    · rename_i hp
      have hb := h pos (Nat.le_refl _) hp
      have hlow : (s.get! pos).toNat < 128 := by
        rcases Nat.lt_or_ge (s.get! pos).toNat 128 with h2 | h2
        · exact h2
        · rw [badR_high h2] at hb; cases hb
      rw [dec_low s pos hlow]
      simp only
      rw [if_neg (by rw [hb]; decide)]
      exact any_false s f (pos + 1) (fun i hi => h i (by omega))
    · rfl
/-- Is the byte allowed at that place? -/
def okAt (s : ByteArray) (i : Nat) : Bool := decide ((97 ≤ bt s i ∧ bt s i ≤ 122) ∨ (i ≠ 0 ∧ ((48 ≤ bt s i ∧ bt s i ≤ 57) ∨ bt s i = 45 ∨ bt s i = 95)))
theorem name_bad {s : ByteArray} {i : Nat} (h : i < s.size) (hb : okAt s i = false) : nameOK s = false := by
  unfold okAt at hb
  have hb := of_decide_eq_false hb
  have hg := get_bt s i h
  unfold nameOK
  rw [Bool.and_eq_false_iff]
  by_cases h0 : i = 0
  · subst h0
    left
    exact decide_eq_false (fun hh => hb (Or.inl (by simpa using hh.2.2)))
  · right
    rw [any_true s s.size 0 (by omega) i (by omega) h (by unfold badR; exact decide_eq_true (by omega))]
    rfl
theorem name_good {s : ByteArray} (h : ∀ i, i < s.size → okAt s i = true) : nameOK s = decide (1 ≤ s.size ∧ s.size ≤ 16) := by
  unfold nameOK
  rw [any_false s s.size 0 (fun i _ hi => by
    have h1 := of_decide_eq_true (h i hi)
    have hg := get_bt s i hi
    unfold badR
    exact decide_eq_false (by omega))]
  rw [Bool.not_false, Bool.and_true, Bool.eq_iff_iff, decide_eq_true_iff, decide_eq_true_iff]
  constructor
  · intro hh
    exact ⟨hh.1, hh.2.1⟩
  · intro hh
    have h1 := of_decide_eq_true (h 0 (by omega))
    have h2 : (97 ≤ bt s 0 ∧ bt s 0 ≤ 122) := by
      rcases h1 with h1 | h1
      · exact h1
      · exact absurd rfl h1.1
    exact ⟨hh.1, hh.2, h2⟩
theorem refName_l0 (s : ByteArray) (hl : s.size < 9000000000000000000) : ∀ d j, s.size - j = d → j ≤ s.size → (∀ i, i < s.size → i < j → okAt s i = true) → Ev (fun k => musterref14_Name.l0 k s (j : Int)) (nameOK s)
  | 0, j, hd, hj, hn => Ev.stp (fun k => by rw [musterref14_Name.l0]) <| Ev.neg (by omega) <| by
    rw [name_good (fun i hi => hn i hi (by omega))]
    by_cases h : (s.size : Int) ≥ 1
    · exact Ev.pos h (Ev.one (by rw [Bool.eq_iff_iff]; simp; omega))
    · exact Ev.neg h (Ev.one (by rw [eq_comm, decide_eq_false_iff_not]; omega))
  | d + 1, j, hd, hj, hn => Ev.stp (fun k => by rw [musterref14_Name.l0]) <| Ev.pos (by omega) <| Ev.pos (by omega) <| by
    have hlt : j < s.size := by omega
    have hgo : okAt s j = true → Ev (fun k => musterref14_Name.l0 k s (wrap64 ((j : Int) + 1))) (nameOK s) := fun ho => by
      rw [wr1 (by omega)]
      exact refName_l0 s hl d (j + 1) (by omega) (by omega) (fun i hi hij => by
        rcases Nat.lt_or_ge i j with h3 | h3
        · exact hn i hi h3
        · obtain rfl : i = j := by omega
          exact ho)
    by_cases h : okAt s j = true
    · have hg := hgo h
      have h1 := of_decide_eq_true h
      by_cases c1 : bt s j ≥ 97
      · refine Ev.pos c1 ?_
        by_cases c2 : bt s j ≤ 122
        · exact Ev.pos c2 hg
        · omega
      · refine Ev.neg c1 (Ev.neg (by omega) ?_)
        by_cases c3 : bt s j ≥ 48
        · refine Ev.pos c3 ?_
          by_cases c4 : bt s j ≤ 57
          · exact Ev.pos c4 hg
          · refine Ev.neg c4 ?_
            by_cases c5 : bt s j = 45
            · exact Ev.pos c5 hg
            · exact Ev.neg c5 (Ev.pos (by omega) hg)
        · refine Ev.neg c3 ?_
          by_cases c5 : bt s j = 45
          · exact Ev.pos c5 hg
          · exact Ev.neg c5 (Ev.pos (by omega) hg)
    · have h0 : okAt s j = false := by simpa using h
      rw [name_bad hlt h0]
      have h1 := of_decide_eq_false h0
      have hs : Ev (fun _ : Nat => some false) false := Ev.one rfl
      by_cases c1 : bt s j ≥ 97
      · refine Ev.pos c1 (Ev.neg (by omega) ?_)
        by_cases c0 : (j : Int) = 0
        · exact Ev.pos c0 hs
        · exact Ev.neg c0 (Ev.pos (by omega) (Ev.neg (by omega) (Ev.neg (by omega) (Ev.neg (by omega) hs))))
      · refine Ev.neg c1 ?_
        by_cases c0 : (j : Int) = 0
        · exact Ev.pos c0 hs
        · refine Ev.neg c0 ?_
          by_cases c3 : bt s j ≥ 48
          · exact Ev.pos c3 (Ev.neg (by omega) (Ev.neg (by omega) (Ev.neg (by omega) hs)))
          · exact Ev.neg c3 (Ev.neg (by omega) (Ev.neg (by omega) hs))
theorem refName_ev (s : ByteArray) (hl : s.size < 9000000000000000000) : Ev (fun k => musterref14_Name.f k s) (nameOK s) := by
  have := refName_l0 s hl _ 0 rfl (by omega) (fun i _ h => by omega)
  exact this
theorem find_at2 (l : List S57) (A : Option Addr) (c n : Nat) (hn : l.length = n) (hl : n < 9000000000000000000) (name : ByteArray) (w : World) (hr : Kd.C k57 w A n l) (hc : n ≤ c) :
    Calls Try.prog 30 #[.slice A n c, .string name] w fun e w' => e = .returned (.tuple #[.int .i64 (findA l name).1, .bool (findA l name).2]) ∧ Below w.heap.size w w' := by
  subst hn
  obtain ⟨k, hk⟩ := Ev.the (refFind_ev l name hl)
  obtain ⟨⟨r1, r2⟩, hr2⟩ : ∃ r, r = findA l name := ⟨_, rfl⟩
  rw [← hr2] at hk ⊢
  refine (musterref14_Find.calls k A c l name r1 r2 w hr hc hk).mono ?_
  rintro e w' ⟨rfl, hd⟩
  exact ⟨rfl, hd.below⟩
theorem name_calls2 (s : ByteArray) (hl : s.size < 9000000000000000000) (w : World) : Calls Try.prog 40 #[.string s] w fun e w' => e = .returned (.bool (nameOK s)) ∧ Below w.heap.size w w' := by
  obtain ⟨k, hk⟩ := Ev.the (refName_ev s hl)
  refine (musterref14_Name.calls k s (nameOK s) w hk).mono ?_
  rintro e w' ⟨rfl, hd⟩
  exact ⟨rfl, hd.below⟩
set_option maxRecDepth 100000 in
set_option maxHeartbeats 2000000 in
theorem refRight_calls (l : List S57) (A : Option Addr) (c : Nat) (w : World) (hl9 : l.length < 9000000000000000000) (hz : ∀ x ∈ l, x.f0.size < 9000000000000000000) (hr : Kd.C k57 w A l.length l) (hc : l.length ≤ c) :
    Calls Try.prog 41 #[.slice A l.length c] w fun e w' => e = .returned (.bool (rightA l)) ∧ Below w.heap.size w w' := by
  have hln : l.length ≤ 9223372036854775807 := hr.2.1
  have hr9 := Lib.hid hl9
  clear hl9
  have HZ := Lib.hid hz
  clear hz
  have HR := Lib.hid hr
  have HC := Lib.hid hc
  have HB0 := Lib.hid (Below.refl w.heap.size w)
  clear hr hc
  go_enter Try.func41, Try.ntmps41
  go_wp2
  go_loopw [3] (fun i wr => ∃ j : Nat, j ≤ l.length ∧ i = .int .i64 j ∧ Hid (allA l j = true) ∧ Hid (Below w.heap.size w wr)) (fun i _ => l.length - (intOf i).toNat)
  case atStart => exact ⟨0, Nat.zero_le _, rfl, Lib.hid rfl, HB0⟩
  case round =>
    obtain ⟨j, hj, rfl, HT, HB⟩ := hrel
    by_cases hlt : j < l.length
    · have p1 : 0 ≤ (j : Int) := by omega
      have q1 : (j : Int) < (l.length : Int) := by omega
      obtain ⟨ad, e1, hx0, hx1, hx2⟩ := at_T57 HR.out (j : Int) p1 q1
      rw [rdA l j hlt] at hx0 hx1 hx2
      cases e1
      replace hx0 := (HB.out.cell (World.block_lt_of_cell? w _ hx0)).trans hx0
      replace hx1 := (HB.out.cell (World.block_lt_of_cell? w _ hx1)).trans hx1
      replace hx2 := (HB.out.cell (World.block_lt_of_cell? w _ hx2)).trans hx2
      rw [Int.toNat_natCast] at hx0 hx1 hx2
      go_upto_region 5 with (fail)
      generalize hWD : wr.alloc (.cells _ 57) = WD
      obtain ⟨b, hbd⟩ : ∃ b, b = wr.heap.size := ⟨_, rfl⟩
      rw [← hbd]
      have hS : RH w (some ad) l b l[j] WD := by
        have hb := below_alloc (Below.refl _ wr) (.cells #[.string l[j].f0, .string l[j].f1, .int .i64 l[j].f2] 57)
        rw [hWD] at hb
        exact ⟨by rw [← hWD, hbd]; exact box_cell _ _ _ _ _ rfl, by rw [← hWD, hbd]; exact box_cell _ _ _ _ _ rfl, by rw [← hWD, hbd]; exact box_cell _ _ _ _ _ rfl, Kd.C_below HR.out (below_then HB.out HB.out.size hb), below_then HB.out HB.out.size hb⟩
      clear hWD hbd hx0 hx1 hx2
      have hzx : l[j].f0.size < 9000000000000000000 := HZ.out _ (List.getElem_mem hlt)
      generalize hx : l[j] = x at hS hzx ⊢
      have HZX := Lib.hid hzx
      clear hzx
      replace hx := Lib.hid hx
      have pj : (j : Int) ≤ (c : Int) := by have := HC.out; omega
      unfold RH at hS
      have hj9 : j < 9000000000000000000 := by have h1 := hr9.out; omega
      obtain ⟨⟨i1, t1⟩, hf1⟩ : ∃ r, r = findA (l.take j) x.f0 := ⟨_, rfl⟩
      obtain ⟨⟨i2, t2⟩, hf2⟩ : ∃ r, r = findA (l.take j) x.f1 := ⟨_, rfl⟩
      have HF1 : Hid (∀ W, Kd.C k57 W (some ad) l.length l → Calls Try.prog 30 #[.slice (some ad) j c, .string x.f0] W fun e w' => e = .returned (.tuple #[.int .i64 i1, .bool t1]) ∧ Below W.heap.size W w') := Lib.hid (fun W hW => by
        have h := find_at2 (l.take j) (some ad) c j (by rw [List.length_take]; omega) hj9 x.f0 W (C_takeN hW j hj) (by omega)
        rwa [← hf1] at h)
      have HF2 : Hid (∀ W, Kd.C k57 W (some ad) l.length l → Calls Try.prog 30 #[.slice (some ad) j c, .string x.f1] W fun e w' => e = .returned (.tuple #[.int .i64 i2, .bool t2]) ∧ Below W.heap.size W w') := Lib.hid (fun W hW => by
        have h := find_at2 (l.take j) (some ad) c j (by rw [List.length_take]; omega) hj9 x.f1 W (C_takeN hW j hj) (by omega)
        rwa [← hf2] at h)
      have HN : Hid (∀ W, Calls Try.prog 40 #[.string x.f0] W fun e w' => e = .returned (.bool (nameOK x.f0)) ∧ Below W.heap.size W w') := Lib.hid (fun W => name_calls2 x.f0 HZX.out W)
      have HO : Hid (okA (l.take j) x = (!t1 && nameOK x.f0 && (t2 || x.f1.toList.isEmpty) && decide (-1 ≤ x.f2 ∧ x.f2 ≤ 1073741824))) := Lib.hid (by unfold okA; rw [← hf1, ← hf2])
      have HA : Hid (allA l (j + 1) = okA (l.take j) x) := Lib.hid (by rw [allA_step l j hlt, HT.out, Bool.true_and, hx.out])
      clear hf1 hf2 hx
      generalize nameOK x.f0 = nm at HN HO
      go_cut [6] (fun v6 wc => v6 = .bool t1 ∧ (wc.cell? ⟨b, 0, none⟩ = some (.string x.f0) ∧ wc.cell? ⟨b, 1, none⟩ = some (.string x.f1) ∧ wc.cell? ⟨b, 2, none⟩ = some (.int .i64 x.f2) ∧ Kd.C k57 wc (some ad) l.length l ∧ Below w.heap.size w wc))
      case first =>
        go_region_held3 (fun w' => w'.cell? ⟨b, 0, none⟩ = some (.string x.f0) ∧ w'.cell? ⟨b, 1, none⟩ = some (.string x.f1) ∧ w'.cell? ⟨b, 2, none⟩ = some (.int .i64 x.f2) ∧ Kd.C k57 w' (some ad) l.length l ∧ Below w.heap.size w w')
          (first | exact RH.keep (by assumption) (by assumption) | exact RH.keep (by assumption) (below_drew1 (Below.refl _ _)))
          ((go_at_call 30; refine (HF1.out _ (RH.row (by assumption))).mono ?_; rintro e w2 ⟨rfl, hb2⟩))
        all_goals
          go_wp2
          go_meet
          case rel => exact ⟨rfl, by assumption⟩
      case rest =>
        clear hS
        obtain ⟨rfl, hS⟩ := hcut
        go_upto_region 6 with (fail)
        go_cut [8] (fun v8 wc => v8 = .bool t2 ∧ (wc.cell? ⟨b, 0, none⟩ = some (.string x.f0) ∧ wc.cell? ⟨b, 1, none⟩ = some (.string x.f1) ∧ wc.cell? ⟨b, 2, none⟩ = some (.int .i64 x.f2) ∧ Kd.C k57 wc (some ad) l.length l ∧ Below w.heap.size w wc))
        case first =>
          go_region_held3 (fun w' => w'.cell? ⟨b, 0, none⟩ = some (.string x.f0) ∧ w'.cell? ⟨b, 1, none⟩ = some (.string x.f1) ∧ w'.cell? ⟨b, 2, none⟩ = some (.int .i64 x.f2) ∧ Kd.C k57 w' (some ad) l.length l ∧ Below w.heap.size w w')
            (first | exact RH.keep (by assumption) (by assumption) | exact RH.keep (by assumption) (below_drew1 (Below.refl _ _)))
            ((go_at_call 30; refine (HF2.out _ (RH.row (by assumption))).mono ?_; rintro e w2 ⟨rfl, hb2⟩))
          all_goals
            go_wp2
            go_meet
            case rel => exact ⟨rfl, by assumption⟩
        case rest =>
          clear hS
          obtain ⟨rfl, hS⟩ := hcut
          obtain ⟨g0, g1, g2, g3, g4⟩ := hS
          have HB4 := Lib.hid g4
          have G0 := Lib.hid g0
          have G1 := Lib.hid g1
          have G2 := Lib.hid g2
          clear g3 g4 HF1 HF2
          have g0 := G0.out
          have g1 := G1.out
          have g2 := G2.out
          obtain ⟨vb, hvb⟩ : ∃ vb, vb = okA (l.take j) x := ⟨_, rfl⟩
          rw [← hvb] at HO HA
          replace hvb := Lib.hid hvb
          go_wp2_with fail
          refine (HN.out _).mono ?_
          rintro e w5 ⟨rfl, hb5⟩
          replace g0 := (hb5.cell (World.block_lt_of_cell? _ _ g0)).trans g0
          replace g1 := (hb5.cell (World.block_lt_of_cell? _ _ g1)).trans g1
          replace g2 := (hb5.cell (World.block_lt_of_cell? _ _ g2)).trans g2
          replace HB4 := Lib.hid (below_then HB4.out HB4.out.size hb5)
          clear hb5 G0 G1 G2
          obtain ⟨em, hem⟩ : ∃ em, em = x.f1.toList.isEmpty := ⟨_, rfl⟩
          rw [← hem] at HO
          have hem2 : x.f1.toList.isEmpty = em := hem.symm
          have hem3 : em = true → x.f1.toList = [] := fun h => by rw [h] at hem2; simpa using hem2
          have hem4 : em = false → ¬ x.f1.toList = [] := fun h h2 => by rw [h, h2] at hem2; cases hem2
          clear hem
          have HE := Lib.hid hem2
          clear hem2
          have bad : Hid (vb = false → rightA l = false) := Lib.hid (fun hv => by
            unfold rightA
            rw [allA_bad l (j + 1) (by rw [HA.out, hv]) l.length (by omega)]
            rfl)
          have good : Hid (vb = true → allA l (j + 1) = true) := Lib.hid (fun hv => by rw [HA.out, hv])
          cases nm <;> cases t1 <;> cases t2 <;> cases em <;> by_cases hl1 : x.f2 < -1 <;> by_cases hl2 : 1073741824 < x.f2
          all_goals
            first
            | (exfalso; omega)
            | skip
          all_goals
            first
            | (have HV : Hid (vb = false) := Lib.hid (by rw [HO.out]; first | rfl | (rw [decide_eq_false (by omega)]; rfl))
               have HS : Hid True := Lib.hid trivial
               first | (have hq := hem3 rfl) | (have hq := hem4 rfl)
               clear hem3 hem4
               have hz := HE.out
               clear HE
               go_wp2
               go_ret
               exact ⟨by rw [bad.out HV.out]; rfl, HB4.out⟩)
            | (have HV : Hid (vb = true) := Lib.hid (by rw [HO.out]; first | rfl | (rw [decide_eq_true (by omega)]; rfl))
               first | (have hq := hem3 rfl) | (have hq := hem4 rfl)
               clear hem3 hem4
               have hz := HE.out
               clear HE
               have HG := Lib.hid (good.out HV.out)
               clear good bad HV
               go_wp2
               go_roundw
               case rel => exact ⟨j + 1, by omega, by go_num, HG, HB4⟩
               case measure => simp [intOf]; omega)
    · obtain rfl : j = l.length := by omega
      by_cases h1 : 1 ≤ l.length
      · have HV : Hid (rightA l = decide ((l.length : Int) ≤ 16)) := Lib.hid (by unfold rightA; rw [HT.out, Bool.eq_iff_iff]; simp; omega)
        go_wp2
        go_ret
        exact ⟨by rw [HV.out]; rfl, HB.out⟩
      · have HV : Hid (rightA l = false) := Lib.hid (by unfold rightA; rw [HT.out]; simp [h1])
        go_wp2
        go_ret
        exact ⟨by rw [HV.out]; rfl, HB.out⟩
end Go.Proofs.Ytcnobkcddgcifaa.PT
/- musterref15.Right. (A part of the print PT.) -/
set_option linter.unusedVariables false
set_option linter.unusedSimpArgs false
namespace Go.Proofs.Ytcnobkcddgcifaa.PT
open Go.RowKit Go.Proofs.YtcnobkcddgcifaaW.PrintWords Go.Proofs.YtcnobkcddgcifaaW.PrintLast Go.Proofs.YtcnobkcddgcifaaW.PrintMore Go.Proofs.Ytcnobkcddgcifaa.Gen Go.Proofs.Ytcnobkcddgcifaa.EvK
def refRightQ.T5 : Bool × List (List Nat × List Nat) := (true, [([], []), ([0], [0]), ([1], [1]), ([2], [2]), ([3, 2], [3]), ([4], [4]), ([5, 4], [4, 5]), ([4], [4]), ([6, 7, 4], [4, 6, 7]), ([4], [4]), ([9, 4], [4, 9]), ([8, 10, 4, 4], [4, 8, 10]), ([11, 4], [4, 11]), ([4, 12], [4, 12]), ([13, 11], [13]), ([14], [14]), ([15, 14], [14, 15]), ([16, 14], [14, 16]), ([14, 17], [14, 17]), ([18, 14], [18]), ([19], [19]), ([20, 19], [19, 20]), ([21, 19], [19, 21]), ([19, 22], [19, 22]), ([23, 19], [23]), ([24], [24]), ([25, 24], [24, 25]), ([26, 24], [24, 26]), ([24, 27], [24, 27]), ([28, 24], [28]), ([29], [29]), ([30, 29], [29, 30]), ([31, 29], [29, 31]), ([29, 32], [29, 32]), ([33, 29], [33]), ([34], [34]), ([35, 34], [34, 35]), ([36, 34], [34, 36]), ([34, 37], [34, 37]), ([38, 34], [38]), ([39], [39]), ([40, 39], [39, 40]), ([41, 39], [39, 41]), ([39, 42], [39, 42])])
def refRightQ.B5 : List Nat := [0, 1, 3, 7, 15, 31, 63, 31, 255, 31, 543, 2047, 4095, 8191, 16383, 32767, 65535, 131071, 262143, 524287, 1048575, 2097151, 4194303, 8388607, 16777215, 33554431, 67108863, 134217727, 268435455, 536870911, 1073741823, 2147483647, 4294967295, 8589934591, 17179869183, 34359738367, 68719476735, 137438953471, 274877906943, 549755813887, 1099511627775, 2199023255551, 4398046511103, 8796093022207]
theorem refRightQ.tab5 : rtab .any (opsOf Try.f16 5) = refRightQ.T5 := by kernel_rfl
theorem refRightQ.bits5 : waitsOk refRightQ.T5.2 refRightQ.B5 = true := by kernel_rfl
theorem quality_l0 (l : List S59) (a : ByteArray) (hl : l.length < 9000000000000000000) : ∀ d j, l.length - j = d → j ≤ l.length → (∀ i (hi : i < j) (hl : i < l.length), isQ a l[i] = false) → Ev (fun k => musterref15_quality.l0 k l a (j : Int)) (idxOf l (isQ a))
  | 0, j, hd, hj, hn => Ev.stp (fun k => by rw [musterref15_quality.l0]) (Ev.neg (by omega) (Ev.one (by rw [idxOf_none (fun i hi => hn i (by omega) hi)])))
  | d + 1, j, hd, hj, hn => by
    have hlt : j < l.length := by omega
    refine Ev.stp (fun k => by rw [musterref15_quality.l0]) (Ev.pos (by omega) (Ev.pos (by omega) ?_))
    rw [rdQ l j hlt]
    by_cases h : l[j].f0.toList = a.toList
    · exact Ev.pos h (Ev.one (by rw [idxOf_at hlt (fun i hi => hn i hi (by omega)) (by unfold isQ; rw [h]; exact beq_self_eq_true _)]))
    · refine Ev.neg h ?_
      rw [wr1 (by omega)]
      refine quality_l0 l a hl d (j + 1) (by omega) (by omega) (fun i hi hl => ?_)
      rcases Nat.lt_succ_iff_lt_or_eq.1 hi with h' | h'
      · exact hn i h' hl
      · subst h'
        unfold isQ
        exact beq_eq_false_iff_ne.2 h
theorem quality_calls (l : List S59) (A : Option Addr) (c n : Nat) (hn : n = l.length) (a : ByteArray) (hl : l.length < 9000000000000000000) (w : World) (hr : Kd.C k59 w A l.length l) (hc : l.length ≤ c) : Calls Try.prog 36 #[.slice A n c, .string a] w fun e w' => e = .returned (.int .i64 (idxOf l (isQ a))) ∧ Below w.heap.size w w' := by
  subst hn
  obtain ⟨k, hk⟩ := Ev.the (quality_l0 l a hl _ 0 rfl (Nat.zero_le _) (fun i hi => absurd hi (Nat.not_lt_zero _)))
  exact (musterref15_quality.calls k A c l a _ w hr hc hk).mono fun e w' q => ⟨q.1, q.2.below⟩
def mildQ (q : List S59) (a : List S57) : Bool := decide (q.length < 9000000000000000000) && decide (a.length < 9000000000000000000) && a.all (fun x => decide (x.f0.size < 9000000000000000000)) && q.all (fun x => decide (x.f0.size < 9000000000000000000))
theorem mildQ_iff {q : List S59} {a : List S57} : mildQ q a = true ↔ q.length < 9000000000000000000 ∧ a.length < 9000000000000000000 ∧ (∀ x ∈ a, x.f0.size < 9000000000000000000) ∧ (∀ x ∈ q, x.f0.size < 9000000000000000000) := by
  unfold mildQ
  simp only [Bool.and_eq_true, decide_eq_true_eq, List.all_eq_true, and_assoc]
theorem takeQ {w : World} {A : Option Addr} {l : List S59} (h : Kd.C k59 w A l.length l) (j : Nat) (hj : j ≤ l.length) : Kd.C k59 w A (l.take j).length (l.take j) := by
  exact Kd.C_take h hj
/-- A quality's box and the configuration's. -/
def RQ (w0 : World) (cs : Array Value) (ad : Addr) (n3 c3 : Nat) (q : List S59) (g b : Nat) (x : S59) (w' : World) : Prop :=
  w'.cell? ⟨b, 0, none⟩ = some (.string x.f0) ∧ w'.cell? ⟨b, 1, none⟩ = some (.int .i64 x.f1) ∧ w'.cell? ⟨b, 2, none⟩ = some (.int .i64 x.f2) ∧ w'.cell? ⟨b, 3, none⟩ = some (.int .i64 x.f3) ∧ w'.cell? ⟨g, 3, none⟩ = some (.slice (some ad) n3 c3) ∧ w'.heap[g]? = some (.cells cs 28 (0, 0)) ∧ Kd.C k59 w' (some ad) q.length q ∧ Below w0.heap.size w0 w'
theorem RQ.row {w0 w1 : World} {cs : Array Value} {ad : Addr} {n3 c3 : Nat} {q : List S59} {g b : Nat} {x : S59} (h : RQ w0 cs ad n3 c3 q g b x w1) : Kd.C k59 w1 (some ad) q.length q := h.2.2.2.2.2.2.1
theorem RQ.keep {w0 w1 w2 : World} {cs : Array Value} {ad : Addr} {n3 c3 : Nat} {q : List S59} {g b : Nat} {x : S59} (h : RQ w0 cs ad n3 c3 q g b x w1) (hb : Below w1.heap.size w1 w2) : RQ w0 cs ad n3 c3 q g b x w2 := by
  obtain ⟨h0, h1, h2, h3, h4, h5, h6, h7⟩ := h
  exact ⟨(hb.cell (World.block_lt_of_cell? w1 _ h0)).trans h0, (hb.cell (World.block_lt_of_cell? w1 _ h1)).trans h1, (hb.cell (World.block_lt_of_cell? w1 _ h2)).trans h2, (hb.cell (World.block_lt_of_cell? w1 _ h3)).trans h3, (hb.cell (World.block_lt_of_cell? w1 _ h4)).trans h4, blk_below h5 hb, Kd.C_below h6 hb, below_then h7 h7.size hb⟩
set_option maxRecDepth 100000 in
set_option maxHeartbeats 8000000 in
theorem refRightQ_calls {w : World} {cs : Array Value} {q : List S59} {ac : List S57} (h : Cfg w cs q ac) (hm : q.length < 9000000000000000000 ∧ ac.length < 9000000000000000000 ∧ (∀ x ∈ ac, x.f0.size < 9000000000000000000) ∧ (∀ x ∈ q, x.f0.size < 9000000000000000000)) : Calls Try.prog 16 #[.agg cs] w fun e w' => e = .returned (.bool (rightQ q ac)) ∧ Below w.heap.size w w' := by
  obtain ⟨A0, c0, l0, A1, c1, l1, A2, c2, A3, c3, pl, rfl, h0, h1, h2, h3, h4, h5, h6, h7⟩ := h.is
  obtain ⟨m0, hm0⟩ : ∃ n, n = l0.length := ⟨_, rfl⟩
  obtain ⟨m1, hm1⟩ : ∃ n, n = l1.length := ⟨_, rfl⟩
  obtain ⟨n2, hn2⟩ : ∃ n, n = ac.length := ⟨_, rfl⟩
  obtain ⟨n3, hn3⟩ : ∃ n, n = q.length := ⟨_, rfl⟩
  have HA := Lib.hid (fun W (hB : Below w.heap.size w W) => show Calls Try.prog 41 #[.slice A2 n2 c2] W fun e w' => e = .returned (.bool (rightA ac)) ∧ Below W.heap.size W w' by
    rw [hn2]
    exact refRight_calls ac A2 c2 W hm.2.1 hm.2.2.1 (Kd.C_below h4 hB) h5)
  have HR := Lib.hid h6
  have HC := Lib.hid (show n3 ≤ c3 by rw [hn3]; exact h7)
  have HN := Lib.hid hn3
  have hq9 : n3 < 9000000000000000000 := by rw [hn3]; exact hm.1
  have HZ := Lib.hid hm.2.2.2
  rw [← hm0, ← hm1, ← hn2, ← hn3]
  clear h h0 h1 h2 h3 h4 h5 h6 h7 hm hm0 hm1 hn2 hn3
  unfold cfgV
  have HG := Lib.hid (heap_alloc_new w (.cells #[.slice A0 m0 c0, .slice A1 m1 c1, .slice A2 n2 c2, .slice A3 n3 c3, .int .u8 pl] 28))
  have HB := Lib.hid (below_alloc (Below.refl w.heap.size w) (.cells #[.slice A0 m0 c0, .slice A1 m1 c1, .slice A2 n2 c2, .slice A3 n3 c3, .int .u8 pl] 28))
  go_enter Try.func16, Try.ntmps16
  go_upto_region 1 with (fail)
  generalize World.alloc _ _ = W at HG HB ⊢
  obtain ⟨g, hg⟩ : ∃ g, g = w.heap.size := ⟨_, rfl⟩
  rw [← hg] at HG ⊢
  clear hg
  go_wp2
  go_loopw [3] (fun i wr => ∃ j : Nat, j ≤ n3 ∧ i = .int .i64 j ∧ Hid (allQ q j = true) ∧ Hid (Below w.heap.size w wr) ∧ Hid (wr.heap[g]? = some (.cells #[.slice A0 m0 c0, .slice A1 m1 c1, .slice A2 n2 c2, .slice A3 n3 c3, .int .u8 pl] 28 (0, 0)))) (fun i _ => n3 - (intOf i).toNat)
  case atStart => exact ⟨0, Nat.zero_le _, rfl, Lib.hid rfl, HB, HG⟩
  case round =>
    clear HB HG
    obtain ⟨j, hj, rfl, HT, HB, HG⟩ := hrel
    have g3 : wr.cell? ⟨g, 3, none⟩ = some (.slice A3 n3 c3) := (blk_cell HG.out 3).trans rfl
    by_cases hlt : j < n3
    · have hlt' : j < q.length := by rw [← HN.out]; exact hlt
      obtain ⟨ad, e1, hx0, hx1, hx2, hx3⟩ := at_T59 (Kd.C_below HR.out HB.out) (j : Int) (by omega) (by omega)
      rw [rdQ q j hlt'] at hx0 hx1 hx2 hx3
      rw [Int.toNat_natCast] at hx0 hx1 hx2 hx3
      cases e1
      obtain ⟨x, hx⟩ : ∃ x, x = q[j] := ⟨_, rfl⟩
      rw [← hx] at hx0 hx1 hx2 hx3
      have HX := Lib.hid hx
      have HZx : Hid (x.f0.size < 9000000000000000000) := Lib.hid (HZ.out x (by rw [hx]; exact List.getElem_mem hlt'))
      have HST := Lib.hid (show allQ q (j + 1) = okQ (q.take j) x by rw [allQ_step q j hlt', HT.out, Bool.true_and, hx])
      clear hx
      go_upto_region 5 with (fail)
      generalize hWD : wr.alloc (.cells _ 59) = WD
      obtain ⟨b, hbd⟩ : ∃ b, b = wr.heap.size := ⟨_, rfl⟩
      rw [← hbd]
      have hS : RQ w #[.slice A0 m0 c0, .slice A1 m1 c1, .slice A2 n2 c2, .slice (some ad) n3 c3, .int .u8 pl] ad n3 c3 q g b x WD := by
        have hb := below_alloc (Below.refl _ wr) (.cells #[.string x.f0, .int .i64 x.f1, .int .i64 x.f2, .int .i64 x.f3] 59)
        have hn := heap_alloc_new wr (.cells #[.string x.f0, .int .i64 x.f1, .int .i64 x.f2, .int .i64 x.f3] 59)
        rw [hWD] at hb hn
        rw [← hbd] at hn
        have hgg := blk_below HG.out hb
        exact ⟨(blk_cell hn 0).trans rfl, (blk_cell hn 1).trans rfl, (blk_cell hn 2).trans rfl, (blk_cell hn 3).trans rfl, (blk_cell hgg 3).trans rfl, hgg, Kd.C_below HR.out (below_then HB.out HB.out.size hb), below_then HB.out HB.out.size hb⟩
      clear hWD hbd hx0 hx1 hx2 hx3 g3
      have pj : (j : Int) ≤ (c3 : Int) := by have := HC.out; omega
      have HS0 := Lib.hid (RQ.keep hS (below_drew1 (Below.refl _ WD)))
      clear hS
      obtain ⟨iq, hiq⟩ : ∃ r, r = idxOf (q.take j) (isQ x.f0) := ⟨_, rfl⟩
      obtain ⟨nm, hnm⟩ : ∃ r, r = nameOK x.f0 := ⟨_, rfl⟩
      have HQ : Hid (∀ W, Kd.C k59 W (some ad) q.length q → Calls Try.prog 36 #[.slice (some ad) j c3, .string x.f0] W fun e w' => e = .returned (.int .i64 iq) ∧ Below W.heap.size W w') := Lib.hid (fun W hW => by
        rw [hiq]
        exact quality_calls (q.take j) (some ad) c3 j (by rw [List.length_take]; omega) x.f0 (by rw [List.length_take]; omega) W (takeQ hW j (by omega)) (by rw [List.length_take]; have := HC.out; omega))
      have HNm : Hid (∀ W, Calls Try.prog 40 #[.string x.f0] W fun e w' => e = .returned (.bool nm) ∧ Below W.heap.size W w') := Lib.hid (fun W => by
        rw [hnm]
        exact name_calls2 x.f0 HZx.out W)
      have HO : Hid (okQ (q.take j) x = (nm && !(decide (iq ≥ 0)) && decide (0 ≤ x.f1 ∧ x.f1 ≤ 1000) && !((decide (x.f2 < -1) || decide (1073741824 < x.f2)) || (decide (x.f3 < -1) || decide (1073741824 < x.f3))))) := Lib.hid (by
        unfold okQ
        rw [← hnm, ← idxOf_ge, ← hiq]
        unfold limQ
        unfold overQ
        simp only [List.any_cons, List.any_nil, Bool.or_false, Bool.decide_or])
      clear hiq hnm
      go_cut [60] (fun v60 wc => v60 = .bool (!okQ (q.take j) x) ∧ (wc.cell? ⟨b, 0, none⟩ = some (.string x.f0) ∧ wc.cell? ⟨b, 1, none⟩ = some (.int .i64 x.f1) ∧ wc.cell? ⟨b, 2, none⟩ = some (.int .i64 x.f2) ∧ wc.cell? ⟨b, 3, none⟩ = some (.int .i64 x.f3) ∧ wc.cell? ⟨g, 3, none⟩ = some (.slice (some ad) n3 c3) ∧ wc.heap[g]? = some (.cells #[.slice A0 m0 c0, .slice A1 m1 c1, .slice A2 n2 c2, .slice (some ad) n3 c3, .int .u8 pl] 28 (0, 0)) ∧ Kd.C k59 wc (some ad) q.length q ∧ Below w.heap.size w wc))
      case first =>
        cases nm with
        | false =>
          have HV : Hid (okQ (q.take j) x = false) := Lib.hid (by
            rw [HO.out]
            first | rfl | (simp; done) | (simp; omega))
          refine start_ (n := 44) (S := fun w' => w'.cell? ⟨b, 0, none⟩ = some (.string x.f0) ∧ w'.cell? ⟨b, 1, none⟩ = some (.int .i64 x.f1) ∧ w'.cell? ⟨b, 2, none⟩ = some (.int .i64 x.f2) ∧ w'.cell? ⟨b, 3, none⟩ = some (.int .i64 x.f3) ∧ w'.cell? ⟨g, 3, none⟩ = some (.slice (some ad) n3 c3)) (ds := []) (lk 44 0) (by kernel_rfl) rfl rfl ⟨HS0.out.1, HS0.out.2.1, HS0.out.2.2.1, HS0.out.2.2.2.1, HS0.out.2.2.2.2.1⟩ (fun hHeld => ?_)
          refine with_tabW refRightQ.tab5 refRightQ.bits5 (fun HT_ HW_ => ?_)
          refine pu (i := 0) (N := some 17) (lk 44 1) ?_
          refine tk5 (i := 1) (N := some 18) (lk 44 3) ?_
          refine on1 (i := 2) (N := some 19) (lk 44 7) (fun K hK => ?_)
          refine goes_ Try.func40 (by kernel_rfl) rfl #[.string x.f0] (by rfl) rfl rfl (by simp only [List.map_toArray, List.map_cons, List.map_nil]; rfl) ?_
          with_reducible refine (HNm.out _).mono ?_
          rintro e W1 ⟨rfl, hb⟩
          refine ⟨_, rfl, ?_⟩
          have HS1 := Lib.hid (RQ.keep HS0.out hb)
          clear hb
          refine hK.out _ _ ⟨HS1.out.1, HS1.out.2.1, HS1.out.2.2.1, HS1.out.2.2.2.1, HS1.out.2.2.2.2.1⟩ (fun hHeld => ?_)
          clear hK K
          refine nm (some 19) ?_
          refine pu (i := 3) (N := some 20) (lk 44 15) ?_
          refine pu (i := 4) (N := some 21) (lk 44 31) ?_
          refine pd (i := 5) (N := some 22) (lk 44 63) ?_
          refine pd (i := 6) (N := some 23) (lk 44 127) ?_
          refine pd (i := 7) (N := some 24) (lk 44 255) ?_
          refine pd (i := 8) (N := some 25) (lk 44 511) ?_
          refine pd (i := 9) (N := some 26) (lk 44 1023) ?_
          refine pd (i := 10) (N := some 27) (lk 44 2047) ?_
          refine pd (i := 11) (N := some 28) (lk 44 4095) ?_
          refine pd (i := 12) (N := some 29) (lk 44 8191) ?_
          refine pu (i := 13) (N := some 30) (lk 44 16383) ?_
          refine pu (i := 14) (N := some 31) (lk 44 32767) ?_
          refine pd (i := 15) (N := some 32) (lk 44 65535) ?_
          refine pd (i := 16) (N := some 33) (lk 44 131071) ?_
          refine pd (i := 17) (N := some 34) (lk 44 262143) ?_
          refine pu (i := 18) (N := some 35) (lk 44 524287) ?_
          refine pu (i := 19) (N := some 36) (lk 44 1048575) ?_
          refine pd (i := 20) (N := some 37) (lk 44 2097151) ?_
          refine pd (i := 21) (N := some 38) (lk 44 4194303) ?_
          refine pd (i := 22) (N := some 39) (lk 44 8388607) ?_
          refine pu (i := 23) (N := some 40) (lk 44 16777215) ?_
          refine pu (i := 24) (N := some 41) (lk 44 33554431) ?_
          refine pd (i := 25) (N := some 42) (lk 44 67108863) ?_
          refine pd (i := 26) (N := some 43) (lk 44 134217727) ?_
          refine pd (i := 27) (N := some 44) (lk 44 268435455) ?_
          refine pu (i := 28) (N := some 45) (lk 44 536870911) ?_
          refine pu (i := 29) (N := some 46) (lk 44 1073741823) ?_
          refine pd (i := 30) (N := some 47) (lk 44 2147483647) ?_
          refine pd (i := 31) (N := some 48) (lk 44 4294967295) ?_
          refine pd (i := 32) (N := some 49) (lk 44 8589934591) ?_
          refine pu (i := 33) (N := some 50) (lk 44 17179869183) ?_
          refine pu (i := 34) (N := some 51) (lk 44 34359738367) ?_
          refine pd (i := 35) (N := some 52) (lk 44 68719476735) ?_
          refine pd (i := 36) (N := some 53) (lk 44 137438953471) ?_
          refine pd (i := 37) (N := some 54) (lk 44 274877906943) ?_
          refine pu (i := 38) (N := some 55) (lk 44 549755813887) ?_
          refine pu (i := 39) (N := some 56) (lk 44 1099511627775) ?_
          refine pd (i := 40) (N := some 57) (lk 44 2199023255551) ?_
          refine pd (i := 41) (N := some 58) (lk 44 4398046511103) ?_
          refine pd (i := 42) (N := some 59) (lk 44 8796093022207) ?_
          refine pu (i := 43) (N := some 60) (lk 44 17592186044415) ?_
          refine done_ (done_of HT_.out (by kernel_rfl)) ?_
          
          go_wp2
          go_meet
          case rel => exact ⟨by rw [HV.out]; rfl, HS1.out⟩

        | true =>
          by_cases q1 : 0 ≤ iq
          · have d1 : decide (iq ≥ 0) = true := decide_eq_true q1
            rw [d1] at HO
            have HV : Hid (okQ (q.take j) x = false) := Lib.hid (by
              rw [HO.out]
              first | rfl | (simp; done) | (simp; omega))
            refine start_ (n := 44) (S := fun w' => w'.cell? ⟨b, 0, none⟩ = some (.string x.f0) ∧ w'.cell? ⟨b, 1, none⟩ = some (.int .i64 x.f1) ∧ w'.cell? ⟨b, 2, none⟩ = some (.int .i64 x.f2) ∧ w'.cell? ⟨b, 3, none⟩ = some (.int .i64 x.f3) ∧ w'.cell? ⟨g, 3, none⟩ = some (.slice (some ad) n3 c3)) (ds := []) (lk 44 0) (by kernel_rfl) rfl rfl ⟨HS0.out.1, HS0.out.2.1, HS0.out.2.2.1, HS0.out.2.2.2.1, HS0.out.2.2.2.2.1⟩ (fun hHeld => ?_)
            refine with_tabW refRightQ.tab5 refRightQ.bits5 (fun HT_ HW_ => ?_)
            refine pu (i := 0) (N := some 17) (lk 44 1) ?_
            refine tk5 (i := 1) (N := some 18) (lk 44 3) ?_
            refine on1 (i := 2) (N := some 19) (lk 44 7) (fun K hK => ?_)
            refine goes_ Try.func40 (by kernel_rfl) rfl #[.string x.f0] (by rfl) rfl rfl (by simp only [List.map_toArray, List.map_cons, List.map_nil]; rfl) ?_
            with_reducible refine (HNm.out _).mono ?_
            rintro e W1 ⟨rfl, hb⟩
            refine ⟨_, rfl, ?_⟩
            have HS1 := Lib.hid (RQ.keep HS0.out hb)
            clear hb
            refine hK.out _ _ ⟨HS1.out.1, HS1.out.2.1, HS1.out.2.2.1, HS1.out.2.2.2.1, HS1.out.2.2.2.2.1⟩ (fun hHeld => ?_)
            clear hK K
            refine nm (some 19) ?_
            refine pu (i := 3) (N := some 20) (lk 44 15) ?_
            refine pu (i := 4) (N := some 21) (lk 44 31) ?_
            refine pu (i := 5) (N := some 22) (lk 44 63) ?_
            refine pu (i := 7) (N := some 24) (lk 44 191) ?_
            refine pu (i := 9) (N := some 26) (lk 44 703) ?_
            refine tk5 (i := 6) (N := some 23) (lk 44 767) ?_
            refine pu (i := 8) (N := some 25) (lk 44 1023) ?_
            refine tk5 (i := 10) (N := some 27) (lk 44 2047) ?_
            refine on1 (i := 11) (N := some 28) (lk 44 4095) (fun K hK => ?_)
            refine goes_ Try.func36 (by kernel_rfl) rfl #[.slice (some ad) j c3, .string x.f0] (by rfl) rfl rfl (by simp only [List.map_toArray, List.map_cons, List.map_nil]; rfl) ?_
            with_reducible refine (HQ.out _ HS1.out.row).mono ?_
            rintro e W2 ⟨rfl, hb⟩
            refine ⟨_, rfl, ?_⟩
            have HS2 := Lib.hid (RQ.keep HS1.out hb)
            clear hb
            refine hK.out _ _ ⟨HS2.out.1, HS2.out.2.1, HS2.out.2.2.1, HS2.out.2.2.2.1, HS2.out.2.2.2.2.1⟩ (fun hHeld => ?_)
            clear hK K
            refine nm (some 28) ?_
            refine pu (i := 12) (N := some 29) (lk 44 8191) ?_
            refine pu (i := 13) (N := some 30) (lk 44 16383) ?_
            refine pu (i := 14) (N := some 31) (lk 44 32767) ?_
            refine pd (i := 15) (N := some 32) (lk 44 65535) ?_
            refine pd (i := 16) (N := some 33) (lk 44 131071) ?_
            refine pd (i := 17) (N := some 34) (lk 44 262143) ?_
            refine pu (i := 18) (N := some 35) (lk 44 524287) ?_
            refine pu (i := 19) (N := some 36) (lk 44 1048575) ?_
            refine pd (i := 20) (N := some 37) (lk 44 2097151) ?_
            refine pd (i := 21) (N := some 38) (lk 44 4194303) ?_
            refine pd (i := 22) (N := some 39) (lk 44 8388607) ?_
            refine pu (i := 23) (N := some 40) (lk 44 16777215) ?_
            refine pu (i := 24) (N := some 41) (lk 44 33554431) ?_
            refine pd (i := 25) (N := some 42) (lk 44 67108863) ?_
            refine pd (i := 26) (N := some 43) (lk 44 134217727) ?_
            refine pd (i := 27) (N := some 44) (lk 44 268435455) ?_
            refine pu (i := 28) (N := some 45) (lk 44 536870911) ?_
            refine pu (i := 29) (N := some 46) (lk 44 1073741823) ?_
            refine pd (i := 30) (N := some 47) (lk 44 2147483647) ?_
            refine pd (i := 31) (N := some 48) (lk 44 4294967295) ?_
            refine pd (i := 32) (N := some 49) (lk 44 8589934591) ?_
            refine pu (i := 33) (N := some 50) (lk 44 17179869183) ?_
            refine pu (i := 34) (N := some 51) (lk 44 34359738367) ?_
            refine pd (i := 35) (N := some 52) (lk 44 68719476735) ?_
            refine pd (i := 36) (N := some 53) (lk 44 137438953471) ?_
            refine pd (i := 37) (N := some 54) (lk 44 274877906943) ?_
            refine pu (i := 38) (N := some 55) (lk 44 549755813887) ?_
            refine pu (i := 39) (N := some 56) (lk 44 1099511627775) ?_
            refine pd (i := 40) (N := some 57) (lk 44 2199023255551) ?_
            refine pd (i := 41) (N := some 58) (lk 44 4398046511103) ?_
            refine pd (i := 42) (N := some 59) (lk 44 8796093022207) ?_
            refine pu (i := 43) (N := some 60) (lk 44 17592186044415) ?_
            refine done_ (done_of HT_.out (by kernel_rfl)) ?_
            
            go_wp2
            go_meet
            case rel => exact ⟨by rw [HV.out]; rfl, HS2.out⟩

          have d1 : decide (iq ≥ 0) = false := decide_eq_false q1
          rw [d1] at HO
          by_cases q2 : x.f1 < 0
          · have d2 : decide (0 ≤ x.f1 ∧ x.f1 ≤ 1000) = false := decide_eq_false (by omega)
            rw [d2] at HO
            have HV : Hid (okQ (q.take j) x = false) := Lib.hid (by
              rw [HO.out]
              first | rfl | (simp; done) | (simp; omega))
            refine start_ (n := 44) (S := fun w' => w'.cell? ⟨b, 0, none⟩ = some (.string x.f0) ∧ w'.cell? ⟨b, 1, none⟩ = some (.int .i64 x.f1) ∧ w'.cell? ⟨b, 2, none⟩ = some (.int .i64 x.f2) ∧ w'.cell? ⟨b, 3, none⟩ = some (.int .i64 x.f3) ∧ w'.cell? ⟨g, 3, none⟩ = some (.slice (some ad) n3 c3)) (ds := []) (lk 44 0) (by kernel_rfl) rfl rfl ⟨HS0.out.1, HS0.out.2.1, HS0.out.2.2.1, HS0.out.2.2.2.1, HS0.out.2.2.2.2.1⟩ (fun hHeld => ?_)
            refine with_tabW refRightQ.tab5 refRightQ.bits5 (fun HT_ HW_ => ?_)
            refine pu (i := 0) (N := some 17) (lk 44 1) ?_
            refine tk5 (i := 1) (N := some 18) (lk 44 3) ?_
            refine on1 (i := 2) (N := some 19) (lk 44 7) (fun K hK => ?_)
            refine goes_ Try.func40 (by kernel_rfl) rfl #[.string x.f0] (by rfl) rfl rfl (by simp only [List.map_toArray, List.map_cons, List.map_nil]; rfl) ?_
            with_reducible refine (HNm.out _).mono ?_
            rintro e W1 ⟨rfl, hb⟩
            refine ⟨_, rfl, ?_⟩
            have HS1 := Lib.hid (RQ.keep HS0.out hb)
            clear hb
            refine hK.out _ _ ⟨HS1.out.1, HS1.out.2.1, HS1.out.2.2.1, HS1.out.2.2.2.1, HS1.out.2.2.2.2.1⟩ (fun hHeld => ?_)
            clear hK K
            refine nm (some 19) ?_
            refine pu (i := 3) (N := some 20) (lk 44 15) ?_
            refine pu (i := 4) (N := some 21) (lk 44 31) ?_
            refine pu (i := 5) (N := some 22) (lk 44 63) ?_
            refine pu (i := 7) (N := some 24) (lk 44 191) ?_
            refine pu (i := 9) (N := some 26) (lk 44 703) ?_
            refine tk5 (i := 6) (N := some 23) (lk 44 767) ?_
            refine pu (i := 8) (N := some 25) (lk 44 1023) ?_
            refine tk5 (i := 10) (N := some 27) (lk 44 2047) ?_
            refine on1 (i := 11) (N := some 28) (lk 44 4095) (fun K hK => ?_)
            refine goes_ Try.func36 (by kernel_rfl) rfl #[.slice (some ad) j c3, .string x.f0] (by rfl) rfl rfl (by simp only [List.map_toArray, List.map_cons, List.map_nil]; rfl) ?_
            with_reducible refine (HQ.out _ HS1.out.row).mono ?_
            rintro e W2 ⟨rfl, hb⟩
            refine ⟨_, rfl, ?_⟩
            have HS2 := Lib.hid (RQ.keep HS1.out hb)
            clear hb
            refine hK.out _ _ ⟨HS2.out.1, HS2.out.2.1, HS2.out.2.2.1, HS2.out.2.2.2.1, HS2.out.2.2.2.2.1⟩ (fun hHeld => ?_)
            clear hK K
            refine nm (some 28) ?_
            refine pu (i := 12) (N := some 29) (lk 44 8191) ?_
            refine pu (i := 13) (N := some 30) (lk 44 16383) ?_
            refine pu (i := 14) (N := some 31) (lk 44 32767) ?_
            refine pu (i := 15) (N := some 32) (lk 44 65535) ?_
            refine tk5 (i := 16) (N := some 33) (lk 44 131071) ?_
            refine pu (i := 17) (N := some 34) (lk 44 262143) ?_
            refine pu (i := 18) (N := some 35) (lk 44 524287) ?_
            refine pu (i := 19) (N := some 36) (lk 44 1048575) ?_
            refine pd (i := 20) (N := some 37) (lk 44 2097151) ?_
            refine pd (i := 21) (N := some 38) (lk 44 4194303) ?_
            refine pd (i := 22) (N := some 39) (lk 44 8388607) ?_
            refine pu (i := 23) (N := some 40) (lk 44 16777215) ?_
            refine pu (i := 24) (N := some 41) (lk 44 33554431) ?_
            refine pd (i := 25) (N := some 42) (lk 44 67108863) ?_
            refine pd (i := 26) (N := some 43) (lk 44 134217727) ?_
            refine pd (i := 27) (N := some 44) (lk 44 268435455) ?_
            refine pu (i := 28) (N := some 45) (lk 44 536870911) ?_
            refine pu (i := 29) (N := some 46) (lk 44 1073741823) ?_
            refine pd (i := 30) (N := some 47) (lk 44 2147483647) ?_
            refine pd (i := 31) (N := some 48) (lk 44 4294967295) ?_
            refine pd (i := 32) (N := some 49) (lk 44 8589934591) ?_
            refine pu (i := 33) (N := some 50) (lk 44 17179869183) ?_
            refine pu (i := 34) (N := some 51) (lk 44 34359738367) ?_
            refine pd (i := 35) (N := some 52) (lk 44 68719476735) ?_
            refine pd (i := 36) (N := some 53) (lk 44 137438953471) ?_
            refine pd (i := 37) (N := some 54) (lk 44 274877906943) ?_
            refine pu (i := 38) (N := some 55) (lk 44 549755813887) ?_
            refine pu (i := 39) (N := some 56) (lk 44 1099511627775) ?_
            refine pd (i := 40) (N := some 57) (lk 44 2199023255551) ?_
            refine pd (i := 41) (N := some 58) (lk 44 4398046511103) ?_
            refine pd (i := 42) (N := some 59) (lk 44 8796093022207) ?_
            refine pu (i := 43) (N := some 60) (lk 44 17592186044415) ?_
            refine done_ (done_of HT_.out (by kernel_rfl)) ?_
            
            go_wp2
            go_meet
            case rel => exact ⟨by rw [HV.out]; rfl, HS2.out⟩

          by_cases q3 : 1000 < x.f1
          · have d2 : decide (0 ≤ x.f1 ∧ x.f1 ≤ 1000) = false := decide_eq_false (by omega)
            rw [d2] at HO
            have HV : Hid (okQ (q.take j) x = false) := Lib.hid (by
              rw [HO.out]
              first | rfl | (simp; done) | (simp; omega))
            refine start_ (n := 44) (S := fun w' => w'.cell? ⟨b, 0, none⟩ = some (.string x.f0) ∧ w'.cell? ⟨b, 1, none⟩ = some (.int .i64 x.f1) ∧ w'.cell? ⟨b, 2, none⟩ = some (.int .i64 x.f2) ∧ w'.cell? ⟨b, 3, none⟩ = some (.int .i64 x.f3) ∧ w'.cell? ⟨g, 3, none⟩ = some (.slice (some ad) n3 c3)) (ds := []) (lk 44 0) (by kernel_rfl) rfl rfl ⟨HS0.out.1, HS0.out.2.1, HS0.out.2.2.1, HS0.out.2.2.2.1, HS0.out.2.2.2.2.1⟩ (fun hHeld => ?_)
            refine with_tabW refRightQ.tab5 refRightQ.bits5 (fun HT_ HW_ => ?_)
            refine pu (i := 0) (N := some 17) (lk 44 1) ?_
            refine tk5 (i := 1) (N := some 18) (lk 44 3) ?_
            refine on1 (i := 2) (N := some 19) (lk 44 7) (fun K hK => ?_)
            refine goes_ Try.func40 (by kernel_rfl) rfl #[.string x.f0] (by rfl) rfl rfl (by simp only [List.map_toArray, List.map_cons, List.map_nil]; rfl) ?_
            with_reducible refine (HNm.out _).mono ?_
            rintro e W1 ⟨rfl, hb⟩
            refine ⟨_, rfl, ?_⟩
            have HS1 := Lib.hid (RQ.keep HS0.out hb)
            clear hb
            refine hK.out _ _ ⟨HS1.out.1, HS1.out.2.1, HS1.out.2.2.1, HS1.out.2.2.2.1, HS1.out.2.2.2.2.1⟩ (fun hHeld => ?_)
            clear hK K
            refine nm (some 19) ?_
            refine pu (i := 3) (N := some 20) (lk 44 15) ?_
            refine pu (i := 4) (N := some 21) (lk 44 31) ?_
            refine pu (i := 5) (N := some 22) (lk 44 63) ?_
            refine pu (i := 7) (N := some 24) (lk 44 191) ?_
            refine pu (i := 9) (N := some 26) (lk 44 703) ?_
            refine tk5 (i := 6) (N := some 23) (lk 44 767) ?_
            refine pu (i := 8) (N := some 25) (lk 44 1023) ?_
            refine tk5 (i := 10) (N := some 27) (lk 44 2047) ?_
            refine on1 (i := 11) (N := some 28) (lk 44 4095) (fun K hK => ?_)
            refine goes_ Try.func36 (by kernel_rfl) rfl #[.slice (some ad) j c3, .string x.f0] (by rfl) rfl rfl (by simp only [List.map_toArray, List.map_cons, List.map_nil]; rfl) ?_
            with_reducible refine (HQ.out _ HS1.out.row).mono ?_
            rintro e W2 ⟨rfl, hb⟩
            refine ⟨_, rfl, ?_⟩
            have HS2 := Lib.hid (RQ.keep HS1.out hb)
            clear hb
            refine hK.out _ _ ⟨HS2.out.1, HS2.out.2.1, HS2.out.2.2.1, HS2.out.2.2.2.1, HS2.out.2.2.2.2.1⟩ (fun hHeld => ?_)
            clear hK K
            refine nm (some 28) ?_
            refine pu (i := 12) (N := some 29) (lk 44 8191) ?_
            refine pu (i := 13) (N := some 30) (lk 44 16383) ?_
            refine pu (i := 14) (N := some 31) (lk 44 32767) ?_
            refine pu (i := 15) (N := some 32) (lk 44 65535) ?_
            refine tk5 (i := 16) (N := some 33) (lk 44 131071) ?_
            refine pu (i := 17) (N := some 34) (lk 44 262143) ?_
            refine pu (i := 18) (N := some 35) (lk 44 524287) ?_
            refine pu (i := 19) (N := some 36) (lk 44 1048575) ?_
            refine pu (i := 20) (N := some 37) (lk 44 2097151) ?_
            refine tk5 (i := 21) (N := some 38) (lk 44 4194303) ?_
            refine pu (i := 22) (N := some 39) (lk 44 8388607) ?_
            refine pu (i := 23) (N := some 40) (lk 44 16777215) ?_
            refine pu (i := 24) (N := some 41) (lk 44 33554431) ?_
            refine pd (i := 25) (N := some 42) (lk 44 67108863) ?_
            refine pd (i := 26) (N := some 43) (lk 44 134217727) ?_
            refine pd (i := 27) (N := some 44) (lk 44 268435455) ?_
            refine pu (i := 28) (N := some 45) (lk 44 536870911) ?_
            refine pu (i := 29) (N := some 46) (lk 44 1073741823) ?_
            refine pd (i := 30) (N := some 47) (lk 44 2147483647) ?_
            refine pd (i := 31) (N := some 48) (lk 44 4294967295) ?_
            refine pd (i := 32) (N := some 49) (lk 44 8589934591) ?_
            refine pu (i := 33) (N := some 50) (lk 44 17179869183) ?_
            refine pu (i := 34) (N := some 51) (lk 44 34359738367) ?_
            refine pd (i := 35) (N := some 52) (lk 44 68719476735) ?_
            refine pd (i := 36) (N := some 53) (lk 44 137438953471) ?_
            refine pd (i := 37) (N := some 54) (lk 44 274877906943) ?_
            refine pu (i := 38) (N := some 55) (lk 44 549755813887) ?_
            refine pu (i := 39) (N := some 56) (lk 44 1099511627775) ?_
            refine pd (i := 40) (N := some 57) (lk 44 2199023255551) ?_
            refine pd (i := 41) (N := some 58) (lk 44 4398046511103) ?_
            refine pd (i := 42) (N := some 59) (lk 44 8796093022207) ?_
            refine pu (i := 43) (N := some 60) (lk 44 17592186044415) ?_
            refine done_ (done_of HT_.out (by kernel_rfl)) ?_
            
            go_wp2
            go_meet
            case rel => exact ⟨by rw [HV.out]; rfl, HS2.out⟩

          have d2 : decide (0 ≤ x.f1 ∧ x.f1 ≤ 1000) = true := decide_eq_true (by omega)
          rw [d2] at HO
          by_cases q4 : x.f2 < -1
          · rw [decide_eq_true q4] at HO
            have HV : Hid (okQ (q.take j) x = false) := Lib.hid (by
              rw [HO.out]
              first | rfl | (simp; done) | (simp; omega))
            refine start_ (n := 44) (S := fun w' => w'.cell? ⟨b, 0, none⟩ = some (.string x.f0) ∧ w'.cell? ⟨b, 1, none⟩ = some (.int .i64 x.f1) ∧ w'.cell? ⟨b, 2, none⟩ = some (.int .i64 x.f2) ∧ w'.cell? ⟨b, 3, none⟩ = some (.int .i64 x.f3) ∧ w'.cell? ⟨g, 3, none⟩ = some (.slice (some ad) n3 c3)) (ds := []) (lk 44 0) (by kernel_rfl) rfl rfl ⟨HS0.out.1, HS0.out.2.1, HS0.out.2.2.1, HS0.out.2.2.2.1, HS0.out.2.2.2.2.1⟩ (fun hHeld => ?_)
            refine with_tabW refRightQ.tab5 refRightQ.bits5 (fun HT_ HW_ => ?_)
            refine pu (i := 0) (N := some 17) (lk 44 1) ?_
            refine tk5 (i := 1) (N := some 18) (lk 44 3) ?_
            refine on1 (i := 2) (N := some 19) (lk 44 7) (fun K hK => ?_)
            refine goes_ Try.func40 (by kernel_rfl) rfl #[.string x.f0] (by rfl) rfl rfl (by simp only [List.map_toArray, List.map_cons, List.map_nil]; rfl) ?_
            with_reducible refine (HNm.out _).mono ?_
            rintro e W1 ⟨rfl, hb⟩
            refine ⟨_, rfl, ?_⟩
            have HS1 := Lib.hid (RQ.keep HS0.out hb)
            clear hb
            refine hK.out _ _ ⟨HS1.out.1, HS1.out.2.1, HS1.out.2.2.1, HS1.out.2.2.2.1, HS1.out.2.2.2.2.1⟩ (fun hHeld => ?_)
            clear hK K
            refine nm (some 19) ?_
            refine pu (i := 3) (N := some 20) (lk 44 15) ?_
            refine pu (i := 4) (N := some 21) (lk 44 31) ?_
            refine pu (i := 5) (N := some 22) (lk 44 63) ?_
            refine pu (i := 7) (N := some 24) (lk 44 191) ?_
            refine pu (i := 9) (N := some 26) (lk 44 703) ?_
            refine tk5 (i := 6) (N := some 23) (lk 44 767) ?_
            refine pu (i := 8) (N := some 25) (lk 44 1023) ?_
            refine tk5 (i := 10) (N := some 27) (lk 44 2047) ?_
            refine on1 (i := 11) (N := some 28) (lk 44 4095) (fun K hK => ?_)
            refine goes_ Try.func36 (by kernel_rfl) rfl #[.slice (some ad) j c3, .string x.f0] (by rfl) rfl rfl (by simp only [List.map_toArray, List.map_cons, List.map_nil]; rfl) ?_
            with_reducible refine (HQ.out _ HS1.out.row).mono ?_
            rintro e W2 ⟨rfl, hb⟩
            refine ⟨_, rfl, ?_⟩
            have HS2 := Lib.hid (RQ.keep HS1.out hb)
            clear hb
            refine hK.out _ _ ⟨HS2.out.1, HS2.out.2.1, HS2.out.2.2.1, HS2.out.2.2.2.1, HS2.out.2.2.2.2.1⟩ (fun hHeld => ?_)
            clear hK K
            refine nm (some 28) ?_
            refine pu (i := 12) (N := some 29) (lk 44 8191) ?_
            refine pu (i := 13) (N := some 30) (lk 44 16383) ?_
            refine pu (i := 14) (N := some 31) (lk 44 32767) ?_
            refine pu (i := 15) (N := some 32) (lk 44 65535) ?_
            refine tk5 (i := 16) (N := some 33) (lk 44 131071) ?_
            refine pu (i := 17) (N := some 34) (lk 44 262143) ?_
            refine pu (i := 18) (N := some 35) (lk 44 524287) ?_
            refine pu (i := 19) (N := some 36) (lk 44 1048575) ?_
            refine pu (i := 20) (N := some 37) (lk 44 2097151) ?_
            refine tk5 (i := 21) (N := some 38) (lk 44 4194303) ?_
            refine pu (i := 22) (N := some 39) (lk 44 8388607) ?_
            refine pu (i := 23) (N := some 40) (lk 44 16777215) ?_
            refine pu (i := 24) (N := some 41) (lk 44 33554431) ?_
            refine pu (i := 25) (N := some 42) (lk 44 67108863) ?_
            refine tk5 (i := 26) (N := some 43) (lk 44 134217727) ?_
            refine pu (i := 27) (N := some 44) (lk 44 268435455) ?_
            refine pu (i := 28) (N := some 45) (lk 44 536870911) ?_
            refine pu (i := 29) (N := some 46) (lk 44 1073741823) ?_
            refine pd (i := 30) (N := some 47) (lk 44 2147483647) ?_
            refine pd (i := 31) (N := some 48) (lk 44 4294967295) ?_
            refine pd (i := 32) (N := some 49) (lk 44 8589934591) ?_
            refine pu (i := 33) (N := some 50) (lk 44 17179869183) ?_
            refine pu (i := 34) (N := some 51) (lk 44 34359738367) ?_
            refine pd (i := 35) (N := some 52) (lk 44 68719476735) ?_
            refine pd (i := 36) (N := some 53) (lk 44 137438953471) ?_
            refine pd (i := 37) (N := some 54) (lk 44 274877906943) ?_
            refine pu (i := 38) (N := some 55) (lk 44 549755813887) ?_
            refine pu (i := 39) (N := some 56) (lk 44 1099511627775) ?_
            refine pd (i := 40) (N := some 57) (lk 44 2199023255551) ?_
            refine pd (i := 41) (N := some 58) (lk 44 4398046511103) ?_
            refine pd (i := 42) (N := some 59) (lk 44 8796093022207) ?_
            refine pu (i := 43) (N := some 60) (lk 44 17592186044415) ?_
            refine done_ (done_of HT_.out (by kernel_rfl)) ?_
            
            go_wp2
            go_meet
            case rel => exact ⟨by rw [HV.out]; rfl, HS2.out⟩

          rw [decide_eq_false q4] at HO
          by_cases q5 : 1073741824 < x.f2
          · rw [decide_eq_true q5] at HO
            have HV : Hid (okQ (q.take j) x = false) := Lib.hid (by
              rw [HO.out]
              first | rfl | (simp; done) | (simp; omega))
            refine start_ (n := 44) (S := fun w' => w'.cell? ⟨b, 0, none⟩ = some (.string x.f0) ∧ w'.cell? ⟨b, 1, none⟩ = some (.int .i64 x.f1) ∧ w'.cell? ⟨b, 2, none⟩ = some (.int .i64 x.f2) ∧ w'.cell? ⟨b, 3, none⟩ = some (.int .i64 x.f3) ∧ w'.cell? ⟨g, 3, none⟩ = some (.slice (some ad) n3 c3)) (ds := []) (lk 44 0) (by kernel_rfl) rfl rfl ⟨HS0.out.1, HS0.out.2.1, HS0.out.2.2.1, HS0.out.2.2.2.1, HS0.out.2.2.2.2.1⟩ (fun hHeld => ?_)
            refine with_tabW refRightQ.tab5 refRightQ.bits5 (fun HT_ HW_ => ?_)
            refine pu (i := 0) (N := some 17) (lk 44 1) ?_
            refine tk5 (i := 1) (N := some 18) (lk 44 3) ?_
            refine on1 (i := 2) (N := some 19) (lk 44 7) (fun K hK => ?_)
            refine goes_ Try.func40 (by kernel_rfl) rfl #[.string x.f0] (by rfl) rfl rfl (by simp only [List.map_toArray, List.map_cons, List.map_nil]; rfl) ?_
            with_reducible refine (HNm.out _).mono ?_
            rintro e W1 ⟨rfl, hb⟩
            refine ⟨_, rfl, ?_⟩
            have HS1 := Lib.hid (RQ.keep HS0.out hb)
            clear hb
            refine hK.out _ _ ⟨HS1.out.1, HS1.out.2.1, HS1.out.2.2.1, HS1.out.2.2.2.1, HS1.out.2.2.2.2.1⟩ (fun hHeld => ?_)
            clear hK K
            refine nm (some 19) ?_
            refine pu (i := 3) (N := some 20) (lk 44 15) ?_
            refine pu (i := 4) (N := some 21) (lk 44 31) ?_
            refine pu (i := 5) (N := some 22) (lk 44 63) ?_
            refine pu (i := 7) (N := some 24) (lk 44 191) ?_
            refine pu (i := 9) (N := some 26) (lk 44 703) ?_
            refine tk5 (i := 6) (N := some 23) (lk 44 767) ?_
            refine pu (i := 8) (N := some 25) (lk 44 1023) ?_
            refine tk5 (i := 10) (N := some 27) (lk 44 2047) ?_
            refine on1 (i := 11) (N := some 28) (lk 44 4095) (fun K hK => ?_)
            refine goes_ Try.func36 (by kernel_rfl) rfl #[.slice (some ad) j c3, .string x.f0] (by rfl) rfl rfl (by simp only [List.map_toArray, List.map_cons, List.map_nil]; rfl) ?_
            with_reducible refine (HQ.out _ HS1.out.row).mono ?_
            rintro e W2 ⟨rfl, hb⟩
            refine ⟨_, rfl, ?_⟩
            have HS2 := Lib.hid (RQ.keep HS1.out hb)
            clear hb
            refine hK.out _ _ ⟨HS2.out.1, HS2.out.2.1, HS2.out.2.2.1, HS2.out.2.2.2.1, HS2.out.2.2.2.2.1⟩ (fun hHeld => ?_)
            clear hK K
            refine nm (some 28) ?_
            refine pu (i := 12) (N := some 29) (lk 44 8191) ?_
            refine pu (i := 13) (N := some 30) (lk 44 16383) ?_
            refine pu (i := 14) (N := some 31) (lk 44 32767) ?_
            refine pu (i := 15) (N := some 32) (lk 44 65535) ?_
            refine tk5 (i := 16) (N := some 33) (lk 44 131071) ?_
            refine pu (i := 17) (N := some 34) (lk 44 262143) ?_
            refine pu (i := 18) (N := some 35) (lk 44 524287) ?_
            refine pu (i := 19) (N := some 36) (lk 44 1048575) ?_
            refine pu (i := 20) (N := some 37) (lk 44 2097151) ?_
            refine tk5 (i := 21) (N := some 38) (lk 44 4194303) ?_
            refine pu (i := 22) (N := some 39) (lk 44 8388607) ?_
            refine pu (i := 23) (N := some 40) (lk 44 16777215) ?_
            refine pu (i := 24) (N := some 41) (lk 44 33554431) ?_
            refine pu (i := 25) (N := some 42) (lk 44 67108863) ?_
            refine tk5 (i := 26) (N := some 43) (lk 44 134217727) ?_
            refine pu (i := 27) (N := some 44) (lk 44 268435455) ?_
            refine pu (i := 28) (N := some 45) (lk 44 536870911) ?_
            refine pu (i := 29) (N := some 46) (lk 44 1073741823) ?_
            refine pu (i := 30) (N := some 47) (lk 44 2147483647) ?_
            refine tk5 (i := 31) (N := some 48) (lk 44 4294967295) ?_
            refine pu (i := 32) (N := some 49) (lk 44 8589934591) ?_
            refine pu (i := 33) (N := some 50) (lk 44 17179869183) ?_
            refine pu (i := 34) (N := some 51) (lk 44 34359738367) ?_
            refine pd (i := 35) (N := some 52) (lk 44 68719476735) ?_
            refine pd (i := 36) (N := some 53) (lk 44 137438953471) ?_
            refine pd (i := 37) (N := some 54) (lk 44 274877906943) ?_
            refine pu (i := 38) (N := some 55) (lk 44 549755813887) ?_
            refine pu (i := 39) (N := some 56) (lk 44 1099511627775) ?_
            refine pd (i := 40) (N := some 57) (lk 44 2199023255551) ?_
            refine pd (i := 41) (N := some 58) (lk 44 4398046511103) ?_
            refine pd (i := 42) (N := some 59) (lk 44 8796093022207) ?_
            refine pu (i := 43) (N := some 60) (lk 44 17592186044415) ?_
            refine done_ (done_of HT_.out (by kernel_rfl)) ?_
            
            go_wp2
            go_meet
            case rel => exact ⟨by rw [HV.out]; rfl, HS2.out⟩

          rw [decide_eq_false q5] at HO
          by_cases q6 : x.f3 < -1
          · rw [decide_eq_true q6] at HO
            have HV : Hid (okQ (q.take j) x = false) := Lib.hid (by
              rw [HO.out]
              first | rfl | (simp; done) | (simp; omega))
            refine start_ (n := 44) (S := fun w' => w'.cell? ⟨b, 0, none⟩ = some (.string x.f0) ∧ w'.cell? ⟨b, 1, none⟩ = some (.int .i64 x.f1) ∧ w'.cell? ⟨b, 2, none⟩ = some (.int .i64 x.f2) ∧ w'.cell? ⟨b, 3, none⟩ = some (.int .i64 x.f3) ∧ w'.cell? ⟨g, 3, none⟩ = some (.slice (some ad) n3 c3)) (ds := []) (lk 44 0) (by kernel_rfl) rfl rfl ⟨HS0.out.1, HS0.out.2.1, HS0.out.2.2.1, HS0.out.2.2.2.1, HS0.out.2.2.2.2.1⟩ (fun hHeld => ?_)
            refine with_tabW refRightQ.tab5 refRightQ.bits5 (fun HT_ HW_ => ?_)
            refine pu (i := 0) (N := some 17) (lk 44 1) ?_
            refine tk5 (i := 1) (N := some 18) (lk 44 3) ?_
            refine on1 (i := 2) (N := some 19) (lk 44 7) (fun K hK => ?_)
            refine goes_ Try.func40 (by kernel_rfl) rfl #[.string x.f0] (by rfl) rfl rfl (by simp only [List.map_toArray, List.map_cons, List.map_nil]; rfl) ?_
            with_reducible refine (HNm.out _).mono ?_
            rintro e W1 ⟨rfl, hb⟩
            refine ⟨_, rfl, ?_⟩
            have HS1 := Lib.hid (RQ.keep HS0.out hb)
            clear hb
            refine hK.out _ _ ⟨HS1.out.1, HS1.out.2.1, HS1.out.2.2.1, HS1.out.2.2.2.1, HS1.out.2.2.2.2.1⟩ (fun hHeld => ?_)
            clear hK K
            refine nm (some 19) ?_
            refine pu (i := 3) (N := some 20) (lk 44 15) ?_
            refine pu (i := 4) (N := some 21) (lk 44 31) ?_
            refine pu (i := 5) (N := some 22) (lk 44 63) ?_
            refine pu (i := 7) (N := some 24) (lk 44 191) ?_
            refine pu (i := 9) (N := some 26) (lk 44 703) ?_
            refine tk5 (i := 6) (N := some 23) (lk 44 767) ?_
            refine pu (i := 8) (N := some 25) (lk 44 1023) ?_
            refine tk5 (i := 10) (N := some 27) (lk 44 2047) ?_
            refine on1 (i := 11) (N := some 28) (lk 44 4095) (fun K hK => ?_)
            refine goes_ Try.func36 (by kernel_rfl) rfl #[.slice (some ad) j c3, .string x.f0] (by rfl) rfl rfl (by simp only [List.map_toArray, List.map_cons, List.map_nil]; rfl) ?_
            with_reducible refine (HQ.out _ HS1.out.row).mono ?_
            rintro e W2 ⟨rfl, hb⟩
            refine ⟨_, rfl, ?_⟩
            have HS2 := Lib.hid (RQ.keep HS1.out hb)
            clear hb
            refine hK.out _ _ ⟨HS2.out.1, HS2.out.2.1, HS2.out.2.2.1, HS2.out.2.2.2.1, HS2.out.2.2.2.2.1⟩ (fun hHeld => ?_)
            clear hK K
            refine nm (some 28) ?_
            refine pu (i := 12) (N := some 29) (lk 44 8191) ?_
            refine pu (i := 13) (N := some 30) (lk 44 16383) ?_
            refine pu (i := 14) (N := some 31) (lk 44 32767) ?_
            refine pu (i := 15) (N := some 32) (lk 44 65535) ?_
            refine tk5 (i := 16) (N := some 33) (lk 44 131071) ?_
            refine pu (i := 17) (N := some 34) (lk 44 262143) ?_
            refine pu (i := 18) (N := some 35) (lk 44 524287) ?_
            refine pu (i := 19) (N := some 36) (lk 44 1048575) ?_
            refine pu (i := 20) (N := some 37) (lk 44 2097151) ?_
            refine tk5 (i := 21) (N := some 38) (lk 44 4194303) ?_
            refine pu (i := 22) (N := some 39) (lk 44 8388607) ?_
            refine pu (i := 23) (N := some 40) (lk 44 16777215) ?_
            refine pu (i := 24) (N := some 41) (lk 44 33554431) ?_
            refine pu (i := 25) (N := some 42) (lk 44 67108863) ?_
            refine tk5 (i := 26) (N := some 43) (lk 44 134217727) ?_
            refine pu (i := 27) (N := some 44) (lk 44 268435455) ?_
            refine pu (i := 28) (N := some 45) (lk 44 536870911) ?_
            refine pu (i := 29) (N := some 46) (lk 44 1073741823) ?_
            refine pu (i := 30) (N := some 47) (lk 44 2147483647) ?_
            refine tk5 (i := 31) (N := some 48) (lk 44 4294967295) ?_
            refine pu (i := 32) (N := some 49) (lk 44 8589934591) ?_
            refine pu (i := 33) (N := some 50) (lk 44 17179869183) ?_
            refine pu (i := 34) (N := some 51) (lk 44 34359738367) ?_
            refine pu (i := 35) (N := some 52) (lk 44 68719476735) ?_
            refine tk5 (i := 36) (N := some 53) (lk 44 137438953471) ?_
            refine pu (i := 37) (N := some 54) (lk 44 274877906943) ?_
            refine pu (i := 38) (N := some 55) (lk 44 549755813887) ?_
            refine pu (i := 39) (N := some 56) (lk 44 1099511627775) ?_
            refine pd (i := 40) (N := some 57) (lk 44 2199023255551) ?_
            refine pd (i := 41) (N := some 58) (lk 44 4398046511103) ?_
            refine pd (i := 42) (N := some 59) (lk 44 8796093022207) ?_
            refine pu (i := 43) (N := some 60) (lk 44 17592186044415) ?_
            refine done_ (done_of HT_.out (by kernel_rfl)) ?_
            
            go_wp2
            go_meet
            case rel => exact ⟨by rw [HV.out]; rfl, HS2.out⟩

          rw [decide_eq_false q6] at HO
          by_cases q7 : 1073741824 < x.f3
          · rw [decide_eq_true q7] at HO
            have HV : Hid (okQ (q.take j) x = false) := Lib.hid (by
              rw [HO.out]
              first | rfl | (simp; done) | (simp; omega))
            refine start_ (n := 44) (S := fun w' => w'.cell? ⟨b, 0, none⟩ = some (.string x.f0) ∧ w'.cell? ⟨b, 1, none⟩ = some (.int .i64 x.f1) ∧ w'.cell? ⟨b, 2, none⟩ = some (.int .i64 x.f2) ∧ w'.cell? ⟨b, 3, none⟩ = some (.int .i64 x.f3) ∧ w'.cell? ⟨g, 3, none⟩ = some (.slice (some ad) n3 c3)) (ds := []) (lk 44 0) (by kernel_rfl) rfl rfl ⟨HS0.out.1, HS0.out.2.1, HS0.out.2.2.1, HS0.out.2.2.2.1, HS0.out.2.2.2.2.1⟩ (fun hHeld => ?_)
            refine with_tabW refRightQ.tab5 refRightQ.bits5 (fun HT_ HW_ => ?_)
            refine pu (i := 0) (N := some 17) (lk 44 1) ?_
            refine tk5 (i := 1) (N := some 18) (lk 44 3) ?_
            refine on1 (i := 2) (N := some 19) (lk 44 7) (fun K hK => ?_)
            refine goes_ Try.func40 (by kernel_rfl) rfl #[.string x.f0] (by rfl) rfl rfl (by simp only [List.map_toArray, List.map_cons, List.map_nil]; rfl) ?_
            with_reducible refine (HNm.out _).mono ?_
            rintro e W1 ⟨rfl, hb⟩
            refine ⟨_, rfl, ?_⟩
            have HS1 := Lib.hid (RQ.keep HS0.out hb)
            clear hb
            refine hK.out _ _ ⟨HS1.out.1, HS1.out.2.1, HS1.out.2.2.1, HS1.out.2.2.2.1, HS1.out.2.2.2.2.1⟩ (fun hHeld => ?_)
            clear hK K
            refine nm (some 19) ?_
            refine pu (i := 3) (N := some 20) (lk 44 15) ?_
            refine pu (i := 4) (N := some 21) (lk 44 31) ?_
            refine pu (i := 5) (N := some 22) (lk 44 63) ?_
            refine pu (i := 7) (N := some 24) (lk 44 191) ?_
            refine pu (i := 9) (N := some 26) (lk 44 703) ?_
            refine tk5 (i := 6) (N := some 23) (lk 44 767) ?_
            refine pu (i := 8) (N := some 25) (lk 44 1023) ?_
            refine tk5 (i := 10) (N := some 27) (lk 44 2047) ?_
            refine on1 (i := 11) (N := some 28) (lk 44 4095) (fun K hK => ?_)
            refine goes_ Try.func36 (by kernel_rfl) rfl #[.slice (some ad) j c3, .string x.f0] (by rfl) rfl rfl (by simp only [List.map_toArray, List.map_cons, List.map_nil]; rfl) ?_
            with_reducible refine (HQ.out _ HS1.out.row).mono ?_
            rintro e W2 ⟨rfl, hb⟩
            refine ⟨_, rfl, ?_⟩
            have HS2 := Lib.hid (RQ.keep HS1.out hb)
            clear hb
            refine hK.out _ _ ⟨HS2.out.1, HS2.out.2.1, HS2.out.2.2.1, HS2.out.2.2.2.1, HS2.out.2.2.2.2.1⟩ (fun hHeld => ?_)
            clear hK K
            refine nm (some 28) ?_
            refine pu (i := 12) (N := some 29) (lk 44 8191) ?_
            refine pu (i := 13) (N := some 30) (lk 44 16383) ?_
            refine pu (i := 14) (N := some 31) (lk 44 32767) ?_
            refine pu (i := 15) (N := some 32) (lk 44 65535) ?_
            refine tk5 (i := 16) (N := some 33) (lk 44 131071) ?_
            refine pu (i := 17) (N := some 34) (lk 44 262143) ?_
            refine pu (i := 18) (N := some 35) (lk 44 524287) ?_
            refine pu (i := 19) (N := some 36) (lk 44 1048575) ?_
            refine pu (i := 20) (N := some 37) (lk 44 2097151) ?_
            refine tk5 (i := 21) (N := some 38) (lk 44 4194303) ?_
            refine pu (i := 22) (N := some 39) (lk 44 8388607) ?_
            refine pu (i := 23) (N := some 40) (lk 44 16777215) ?_
            refine pu (i := 24) (N := some 41) (lk 44 33554431) ?_
            refine pu (i := 25) (N := some 42) (lk 44 67108863) ?_
            refine tk5 (i := 26) (N := some 43) (lk 44 134217727) ?_
            refine pu (i := 27) (N := some 44) (lk 44 268435455) ?_
            refine pu (i := 28) (N := some 45) (lk 44 536870911) ?_
            refine pu (i := 29) (N := some 46) (lk 44 1073741823) ?_
            refine pu (i := 30) (N := some 47) (lk 44 2147483647) ?_
            refine tk5 (i := 31) (N := some 48) (lk 44 4294967295) ?_
            refine pu (i := 32) (N := some 49) (lk 44 8589934591) ?_
            refine pu (i := 33) (N := some 50) (lk 44 17179869183) ?_
            refine pu (i := 34) (N := some 51) (lk 44 34359738367) ?_
            refine pu (i := 35) (N := some 52) (lk 44 68719476735) ?_
            refine tk5 (i := 36) (N := some 53) (lk 44 137438953471) ?_
            refine pu (i := 37) (N := some 54) (lk 44 274877906943) ?_
            refine pu (i := 38) (N := some 55) (lk 44 549755813887) ?_
            refine pu (i := 39) (N := some 56) (lk 44 1099511627775) ?_
            refine pu (i := 40) (N := some 57) (lk 44 2199023255551) ?_
            refine tk5 (i := 41) (N := some 58) (lk 44 4398046511103) ?_
            refine pu (i := 42) (N := some 59) (lk 44 8796093022207) ?_
            refine pu (i := 43) (N := some 60) (lk 44 17592186044415) ?_
            refine done_ (done_of HT_.out (by kernel_rfl)) ?_
            
            go_wp2
            go_meet
            case rel => exact ⟨by rw [HV.out]; rfl, HS2.out⟩

          rw [decide_eq_false q7] at HO
          have HV : Hid (okQ (q.take j) x = true) := Lib.hid (by
            rw [HO.out]
            first | rfl | (simp; done) | (simp; omega))
          refine start_ (n := 44) (S := fun w' => w'.cell? ⟨b, 0, none⟩ = some (.string x.f0) ∧ w'.cell? ⟨b, 1, none⟩ = some (.int .i64 x.f1) ∧ w'.cell? ⟨b, 2, none⟩ = some (.int .i64 x.f2) ∧ w'.cell? ⟨b, 3, none⟩ = some (.int .i64 x.f3) ∧ w'.cell? ⟨g, 3, none⟩ = some (.slice (some ad) n3 c3)) (ds := []) (lk 44 0) (by kernel_rfl) rfl rfl ⟨HS0.out.1, HS0.out.2.1, HS0.out.2.2.1, HS0.out.2.2.2.1, HS0.out.2.2.2.2.1⟩ (fun hHeld => ?_)
          refine with_tabW refRightQ.tab5 refRightQ.bits5 (fun HT_ HW_ => ?_)
          refine pu (i := 0) (N := some 17) (lk 44 1) ?_
          refine tk5 (i := 1) (N := some 18) (lk 44 3) ?_
          refine on1 (i := 2) (N := some 19) (lk 44 7) (fun K hK => ?_)
          refine goes_ Try.func40 (by kernel_rfl) rfl #[.string x.f0] (by rfl) rfl rfl (by simp only [List.map_toArray, List.map_cons, List.map_nil]; rfl) ?_
          with_reducible refine (HNm.out _).mono ?_
          rintro e W1 ⟨rfl, hb⟩
          refine ⟨_, rfl, ?_⟩
          have HS1 := Lib.hid (RQ.keep HS0.out hb)
          clear hb
          refine hK.out _ _ ⟨HS1.out.1, HS1.out.2.1, HS1.out.2.2.1, HS1.out.2.2.2.1, HS1.out.2.2.2.2.1⟩ (fun hHeld => ?_)
          clear hK K
          refine nm (some 19) ?_
          refine pu (i := 3) (N := some 20) (lk 44 15) ?_
          refine pu (i := 4) (N := some 21) (lk 44 31) ?_
          refine pu (i := 5) (N := some 22) (lk 44 63) ?_
          refine pu (i := 7) (N := some 24) (lk 44 191) ?_
          refine pu (i := 9) (N := some 26) (lk 44 703) ?_
          refine tk5 (i := 6) (N := some 23) (lk 44 767) ?_
          refine pu (i := 8) (N := some 25) (lk 44 1023) ?_
          refine tk5 (i := 10) (N := some 27) (lk 44 2047) ?_
          refine on1 (i := 11) (N := some 28) (lk 44 4095) (fun K hK => ?_)
          refine goes_ Try.func36 (by kernel_rfl) rfl #[.slice (some ad) j c3, .string x.f0] (by rfl) rfl rfl (by simp only [List.map_toArray, List.map_cons, List.map_nil]; rfl) ?_
          with_reducible refine (HQ.out _ HS1.out.row).mono ?_
          rintro e W2 ⟨rfl, hb⟩
          refine ⟨_, rfl, ?_⟩
          have HS2 := Lib.hid (RQ.keep HS1.out hb)
          clear hb
          refine hK.out _ _ ⟨HS2.out.1, HS2.out.2.1, HS2.out.2.2.1, HS2.out.2.2.2.1, HS2.out.2.2.2.2.1⟩ (fun hHeld => ?_)
          clear hK K
          refine nm (some 28) ?_
          refine pu (i := 12) (N := some 29) (lk 44 8191) ?_
          refine pu (i := 13) (N := some 30) (lk 44 16383) ?_
          refine pu (i := 14) (N := some 31) (lk 44 32767) ?_
          refine pu (i := 15) (N := some 32) (lk 44 65535) ?_
          refine tk5 (i := 16) (N := some 33) (lk 44 131071) ?_
          refine pu (i := 17) (N := some 34) (lk 44 262143) ?_
          refine pu (i := 18) (N := some 35) (lk 44 524287) ?_
          refine pu (i := 19) (N := some 36) (lk 44 1048575) ?_
          refine pu (i := 20) (N := some 37) (lk 44 2097151) ?_
          refine tk5 (i := 21) (N := some 38) (lk 44 4194303) ?_
          refine pu (i := 22) (N := some 39) (lk 44 8388607) ?_
          refine pu (i := 23) (N := some 40) (lk 44 16777215) ?_
          refine pu (i := 24) (N := some 41) (lk 44 33554431) ?_
          refine pu (i := 25) (N := some 42) (lk 44 67108863) ?_
          refine tk5 (i := 26) (N := some 43) (lk 44 134217727) ?_
          refine pu (i := 27) (N := some 44) (lk 44 268435455) ?_
          refine pu (i := 28) (N := some 45) (lk 44 536870911) ?_
          refine pu (i := 29) (N := some 46) (lk 44 1073741823) ?_
          refine pu (i := 30) (N := some 47) (lk 44 2147483647) ?_
          refine tk5 (i := 31) (N := some 48) (lk 44 4294967295) ?_
          refine pu (i := 32) (N := some 49) (lk 44 8589934591) ?_
          refine pu (i := 33) (N := some 50) (lk 44 17179869183) ?_
          refine pu (i := 34) (N := some 51) (lk 44 34359738367) ?_
          refine pu (i := 35) (N := some 52) (lk 44 68719476735) ?_
          refine tk5 (i := 36) (N := some 53) (lk 44 137438953471) ?_
          refine pu (i := 37) (N := some 54) (lk 44 274877906943) ?_
          refine pu (i := 38) (N := some 55) (lk 44 549755813887) ?_
          refine pu (i := 39) (N := some 56) (lk 44 1099511627775) ?_
          refine pu (i := 40) (N := some 57) (lk 44 2199023255551) ?_
          refine tk5 (i := 41) (N := some 58) (lk 44 4398046511103) ?_
          refine pu (i := 42) (N := some 59) (lk 44 8796093022207) ?_
          refine pu (i := 43) (N := some 60) (lk 44 17592186044415) ?_
          refine done_ (done_of HT_.out (by kernel_rfl)) ?_
          
          go_wp2
          go_meet
          case rel => exact ⟨by rw [HV.out]; rfl, HS2.out⟩

      case rest =>
        clear HS0 HQ HNm HO
        obtain ⟨rfl, hS⟩ := hcut
        obtain ⟨_, _, _, _, _, hg5, _, hb7⟩ := hS
        have HG5 := Lib.hid hg5
        have HB7 := Lib.hid hb7
        clear hg5 hb7
        cases hok : okQ (q.take j) x with
        | false =>
          have HF := Lib.hid (show rightQ q ac = false by
            unfold rightQ
            rw [allQ_bad q (j + 1) (by rw [HST.out, hok]) q.length (by rw [← HN.out]; omega)]
            rfl)
          clear hok
          go_wp2
          go_ret
          exact ⟨by first | (rw [HF.out]; done) | (rw [HF.out]; rfl), HB7.out⟩
        | true =>
          have HT1 := Lib.hid (show allQ q (j + 1) = true by rw [HST.out, hok])
          clear hok
          go_wp2
          go_roundw
          case rel => exact ⟨j + 1, by omega, by simp, HT1, HB7, HG5⟩
          case measure => simp [intOf]; omega
    · obtain rfl : n3 = j := by omega
      have g2 : wr.cell? ⟨g, 2, none⟩ = some (.slice A2 n2 c2) := (blk_cell HG.out 2).trans rfl
      have HV : Hid (rightQ q ac = (decide (1 ≤ n3 ∧ n3 ≤ 8) && rightA ac)) := Lib.hid (by
        unfold rightQ
        rw [← HN.out, HT.out, Bool.true_and])
      by_cases k1 : 1 ≤ n3
      case neg =>
        have HF := Lib.hid (show rightQ q ac = false by rw [HV.out, decide_eq_false (by omega)]; rfl)
        have k2 : ¬ (1 : Int) ≤ (n3 : Int) := by omega
        go_wp2
        go_ret
        exact ⟨by first | (rw [HF.out]; done) | (rw [HF.out]; rfl), HB.out⟩
      by_cases k2 : n3 ≤ 8
      case neg =>
        have HF := Lib.hid (show rightQ q ac = false by rw [HV.out, decide_eq_false (by omega)]; rfl)
        have k3 : ¬ (n3 : Int) ≤ 8 := by omega
        go_wp2
        go_ret
        exact ⟨by first | (rw [HF.out]; done) | (rw [HF.out]; rfl), HB.out⟩
      have HF := Lib.hid (show rightQ q ac = rightA ac by rw [HV.out, decide_eq_true (And.intro k1 k2)]; rfl)
      clear HV
      go_wp2_with fail
      refine (HA.out wr HB.out).mono ?_
      rintro e w1 ⟨rfl, hb⟩
      have HBe := Lib.hid (below_then HB.out HB.out.size hb)
      clear hb
      go_wp2
      go_ret
      exact ⟨by first | (rw [HF.out]; done) | (rw [HF.out]; rfl), HBe.out⟩
end Go.Proofs.Ytcnobkcddgcifaa.PT
-- printed by wprint.py (this session's program over the kit's print.py)
namespace Go.Proofs.Ytcnobkcddgcifaa.PT
open Go.RowKit Go.Proofs.YtcnobkcddgcifaaW.PrintWords Go.Proofs.YtcnobkcddgcifaaW.PrintLast Go.Proofs.YtcnobkcddgcifaaW.PrintMore
attribute [local go_sem] max2_int min2_int max_two min_two max_three min_three max_four min_four   -- for this text's walks alone
set_option linter.unusedVariables false
set_option linter.unusedSimpArgs false

/-! ### musterref15_Right: function 16 -/
def musterref15_Right.f (l0_0 : List Int) (l0_1 : List (S87)) (l0_2 : List (S57)) (l0_3 : List (S59)) (a0_4 : Int) : Option (Bool) := if mildQ l0_3 l0_2 = true then some (rightQ l0_3 l0_2) else none
theorem musterref15_Right.calls (A0_0 : Option Addr) (c0_0 : Nat) (l0_0 : List Int) (A0_1 : Option Addr) (c0_1 : Nat) (l0_1 : List (S87)) (A0_2 : Option Addr) (c0_2 : Nat) (l0_2 : List (S57)) (A0_3 : Option Addr) (c0_3 : Nat) (l0_3 : List (S59)) (a0_4 : Int) (r : Bool) (w : World) (hr0_0 : Kd.C (Kd.int .i64) w A0_0 l0_0.length l0_0) (hc0_0 : l0_0.length ≤ c0_0) (hr0_1 : Kd.C k87 w A0_1 l0_1.length l0_1) (hc0_1 : l0_1.length ≤ c0_1) (hr0_2 : Kd.C k57 w A0_2 l0_2.length l0_2) (hc0_2 : l0_2.length ≤ c0_2) (hr0_3 : Kd.C k59 w A0_3 l0_3.length l0_3) (hc0_3 : l0_3.length ≤ c0_3) (h : musterref15_Right.f l0_0 l0_1 l0_2 l0_3 a0_4 = some r) : Calls Try.prog 16 #[.agg #[.slice A0_0 l0_0.length c0_0, .slice A0_1 l0_1.length c0_1, .slice A0_2 l0_2.length c0_2, .slice A0_3 l0_3.length c0_3, .int .u8 a0_4]] w fun e w' => e = .returned (.bool r) ∧ Below w.heap.size w w' := by
  unfold musterref15_Right.f at h
  split at h
  · rename_i ht
    obtain rfl := Option.some.inj h
    exact refRightQ_calls (cs := #[.slice A0_0 l0_0.length c0_0, .slice A0_1 l0_1.length c0_1, .slice A0_2 l0_2.length c0_2, .slice A0_3 l0_3.length c0_3, .int .u8 a0_4]) ⟨A0_0, c0_0, l0_0, A0_1, c0_1, l0_1, A0_2, c0_2, A0_3, c0_3, a0_4, rfl, hr0_0, hc0_0, hr0_1, hc0_1, hr0_2, hc0_2, hr0_3, hc0_3⟩ (mildQ_iff.1 ht)
  · cases h

end Go.Proofs.Ytcnobkcddgcifaa.PT
