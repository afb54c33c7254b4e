/- quota.used, Cores, Qos. (A part of the print PT.) -/
import Derived.Test.YtcnobkcddgcifaaQuotaB
import Derived.Test.YtcnobkcddgcifaaQuotaR
set_option linter.unusedVariables false
set_option linter.unusedSimpArgs false
namespace Go.Proofs.Ytcnobkcddgcifaa.PT
open Go.RowKit Go.Proofs.YtcnobkcddgcifaaW.PrintWords Go.Proofs.YtcnobkcddgcifaaW.PrintLast Go.Proofs.YtcnobkcddgcifaaW.PrintMore Go.Proofs.Ytcnobkcddgcifaa.Gen Go.Proofs.Ytcnobkcddgcifaa.EvK
theorem infoCfg : (Try.prog.info? 28).map (·.size) = some 5 := by kernel_rfl
theorem cfg_ld {w : World} {g : Nat} {A0 : Option Addr} {n0 c0 : Nat} {A1 : Option Addr} {n1 c1 : Nat} {A2 : Option Addr} {n2 c2 : Nat} {A3 : Option Addr} {n3 c3 : Nat} {pl : Int} (h : w.heap[g]? = some (.cells (cfgV A0 n0 c0 A1 n1 c1 A2 n2 c2 A3 n3 c3 pl) 28 (0, 0))) : (Instr.loadAt 28 (.pointer (some ⟨g, 0, none⟩))).run Try.prog w = .ok (.agg (cfgV A0 n0 c0 A1 n1 c1 A2 n2 c2 A3 n3 c3 pl)) w := by
  have hld := run_loadVar_row (P := Try.prog) w g 28 28 (cfgV A0 n0 c0 A1 n1 c1 A2 n2 c2 A3 n3 c3 pl) (0, 0) _ h Try.underlying28 rfl infoCfg
  simp only [Instr.loadAt, Instr.sureAddr, Sem.run_bind, Sem.run_pure, Result.andThen_ok, hld]
set_option maxRecDepth 100000 in
theorem used1_calls (x : S32) (A7 : Option Addr) (c7 b : Nat) (B : List ByteArray) (AB : Option Addr) (cB : Nat) (w : World) (h : w.cell? ⟨b, 0, none⟩ = some (.slice AB B.length cB)) (hr : Kd.C Kd.string w AB B.length B) (hc : B.length ≤ cB) (hB : B.length < 9000000000000000000) :
    Calls Try.prog 54 #[.agg (specC x A7 c7), .pointer (some ⟨b, 0, none⟩)] w fun e w' => e = .returned (.bool (hasB B x.f1)) ∧ Below w.heap.size w w' := by
  have ho : ∀ o, (w.alloc o).cell? ⟨b, 0, none⟩ = some (.slice AB B.length cB) := fun o => ((below_alloc (Below.refl _ w) o).cell (World.block_lt_of_cell? w _ h)).trans h
  have HB := Lib.hid (below_alloc (Below.refl _ w) (.cells (specC x A7 c7) 32))
  have HC := Lib.hid (fun W (hb : Below w.heap.size w W) => (Ev.the (contains_ev B x.f1 hB)).elim fun k hk => slices_Contains_string_string.calls k AB cB B x.f1 (hasB B x.f1) W (Kd.C_below hr hb) hc hk)
  unfold specC at HB ⊢
  clear h hr hc hB
  obtain ⟨n, hn⟩ : ∃ n, n = B.length := ⟨_, rfl⟩
  rw [← hn] at ho
  have HN := Lib.hid hn
  clear hn
  go_enter Try.func54, Try.ntmps54
  go_wp2_with fail
  rw [HN.out]
  refine (HC.out _ HB.out).mono ?_
  rintro e w1 ⟨rfl, hd⟩
  have HB1 := Lib.hid (below_then HB.out HB.out.size hd.below)
  clear hd HC
  obtain ⟨t, ht⟩ : ∃ t, t = hasB B x.f1 := ⟨_, rfl⟩
  rw [← ht]
  have HT := Lib.hid ht
  clear ht
  go_wp2
  go_ret
  exact ⟨by rw [← HT.out]; rfl, HB1.out⟩
set_option maxRecDepth 100000 in
theorem qos1_calls (x : S32) (A7 : Option Addr) (c7 b : Nat) (name : ByteArray) (w : World) (h : w.cell? ⟨b, 0, none⟩ = some (.string name)) :
    Calls Try.prog 35 #[.agg (specC x A7 c7), .pointer (some ⟨b, 0, none⟩)] w fun e w' => e = .returned (.bool (x.f2.toList == name.toList)) ∧ Below w.heap.size w w' := by
  have ho : ∀ o, (w.alloc o).cell? ⟨b, 0, none⟩ = some (.string name) := fun o => ((below_alloc (Below.refl _ w) o).cell (World.block_lt_of_cell? w _ h)).trans h
  have HB := Lib.hid (below_alloc (Below.refl _ w) (.cells (specC x A7 c7) 32))
  unfold specC at HB ⊢
  clear h
  go_enter Try.func35, Try.ntmps35
  go_wp2
  go_ret
  exact ⟨rfl, HB.out⟩
/-- What an account's jobs use. -/
def usedQ (ac : List S57) (l : List S53) (a : ByteArray) : Int := sumQ (fun s => hasB (belowA ac a).1 s.f1) l
def qosP (name : ByteArray) (s : S32) : Bool := s.f2.toList == name.toList
theorem belowA_len (ac : List S57) (a : ByteArray) : (belowA ac a).1.length ≤ ac.length := by
  unfold belowA
  split
  · split
    · exact belA_len ac a ac.length
    · exact Nat.zero_le _
  · exact Nat.zero_le _
set_option maxRecDepth 100000 in
set_option maxHeartbeats 4000000 in
theorem used_calls {w : World} {cs : Array Value} {q : List S59} {ac : List S57} (h : Cfg w cs q ac) (has : ac.length < 9000000000000000000) (l : List S53) (A : Option Addr) (c : Nat) (a : ByteArray) (hr : Kd.C k53 w A l.length l) (hc : l.length ≤ c) (T : Tame l) :
    Calls Try.prog 29 #[.agg cs, .slice A l.length c, .string a] w fun e w' => e = .returned (.int .i64 (usedQ ac l a)) ∧ Below w.heap.size w w' := by
  obtain ⟨A0, c0, l0, A1, c1, l1, A2, c2, A3, c3, pl, rfl, h0, h1, h2, h3, h4, h5, h6, h7⟩ := h.is
  have hmf : ∀ (fn : Fn) (first cap : Array Value) (w : World), (Instr.makeFunc fn first cap).run Try.prog w = .ok (.func fn first cap) w := fun _ _ _ _ => rfl
  have he : ∀ args w, (callFunc 54 args).run Try.prog w = .ok (.enter 54 args) w := enters_of Try.func54 (by kernel_rfl) rfl
  have hBl := belowA_len ac a
  have HU : Hid (usedQ ac l a = sumQ (fun s => hasB (belowA ac a).1 s.f1) l) := Lib.hid rfl
  obtain ⟨⟨B, z⟩, hB⟩ : ∃ r, r = belowA ac a := ⟨_, rfl⟩
  rw [← hB] at HU hBl
  have HBw := Lib.hid (fun W (hb : Below w.heap.size w W) => (Ev.the (below_ev ac a)).elim fun k hk => tree_Below.calls k A2 c2 ac a B z W (Kd.C_below h4 hb) h5 (by rw [hB]; exact hk))
  have HCt := Lib.hid (fun W (hb : Below w.heap.size w W) (b : Nat) (AB : Option Addr) (cB : Nat) (h1 : W.cell? ⟨b, 0, none⟩ = some (.slice AB B.length cB)) (h2 : Kd.C Kd.string W AB B.length B) (h3 : B.length ≤ cB) =>
    count_calls l A c W (Kd.C_below hr hb) hc T 54 #[.pointer (some ⟨b, 0, none⟩)] he (fun s => hasB B s.f1) (fun x A7 c7 W1 hb1 => used1_calls x A7 c7 b B AB cB W1 ((hb1.cell (World.block_lt_of_cell? W _ h1)).trans h1) (Kd.C_below h2 hb1) h3 (by simp only at hBl; omega)))
  clear h hr hc T h0 h1 h2 h3 h4 h5 h6 h7 hB hBl
  unfold cfgV
  have HB0 := Lib.hid (below_alloc (Below.refl _ w) (.cells #[.slice A0 l0.length c0, .slice A1 l1.length c1, .slice A2 ac.length c2, .slice A3 q.length c3, .int .u8 pl] 28))
  go_enter Try.func29, Try.ntmps29
  go_wp2_with fail
  refine (HBw.out _ HB0.out).mono ?_
  rintro e w1 ⟨v0, rfl, ho, hb⟩
  obtain ⟨AB, cB, hv⟩ := Kd.R_slice ho
  subst hv
  have hrd := Kd.R_reads' ho
  have HR := Lib.hid hrd
  have HB1 := Lib.hid (below_then HB0.out HB0.out.size hb)
  clear ho hb hrd HBw HB0
  obtain ⟨n, hn⟩ : ∃ n, n = B.length := ⟨_, rfl⟩
  rw [← hn]
  have HN := Lib.hid hn
  clear hn
  go_wp2_with fail
  have hBx := below_alloc (Below.refl _ w1) (.cells #[.slice AB n cB] 70)
  refine (HCt.out _ (below_then HB1.out HB1.out.size hBx) w1.heap.size AB cB (by rw [HN.out]; exact new_one w1 _ _) (Kd.C_below HR.out.2.2 hBx) HR.out.2.1).mono ?_
  rintro e w2 ⟨rfl, hb⟩
  have HB2 := Lib.hid (below_then (below_then HB1.out HB1.out.size hBx) (below_then HB1.out HB1.out.size hBx).size hb)
  clear hb hBx HCt
  obtain ⟨S, hS⟩ : ∃ S, S = sumQ (fun s => hasB B s.f1) l := ⟨_, rfl⟩
  rw [← hS]
  have HS := Lib.hid hS
  clear hS
  go_wp2
  go_ret
  exact ⟨by rw [HU.out, ← HS.out]; rfl, HB2.out⟩
def coresQ (q : List S59) (ac : List S57) (l : List S53) (a : ByteArray) : Int × Int := if rightQ q ac = true then (if (findA ac a).2 = true then (usedQ ac l a, 0) else (0, 141)) else (0, 2)
def qosQ (q : List S59) (ac : List S57) (l : List S53) (name : ByteArray) : Int × Int × Int := if rightQ q ac = true then (if q.any (isQ name) = true then (sumQ (qosP name) l, ((numQ (qosP name) l : Nat) : Int), 0) else (0, 0, 141)) else (0, 0, 2)
set_option maxRecDepth 100000 in
set_option maxHeartbeats 4000000 in
theorem cores_calls {w : World} {cs : Array Value} {q : List S59} {ac : List S57} (h : Cfg w cs q ac) (has : ac.length < 9000000000000000000) (l : List S53) (A : Option Addr) (c : Nat) (a : ByteArray) (hr : Kd.C k53 w A l.length l) (hc : l.length ≤ c) (T : Tame l) :
    Calls Try.prog 11 #[.agg cs, .slice A l.length c, .string a] w fun e w' => e = .returned (.tuple #[.int .i64 (coresQ q ac l a).1, .int .i64 (coresQ q ac l a).2]) ∧ Below w.heap.size w w' := by
  have HRt := Lib.hid (fun W (hb : Below w.heap.size w W) => cright_calls (h.below hb))
  have HUs := Lib.hid (fun W (hb : Below w.heap.size w W) => used_calls (h.below hb) has l A c a (Kd.C_below hr hb) hc T)
  obtain ⟨A0, c0, l0, A1, c1, l1, A2, c2, A3, c3, pl, rfl, h0, h1, h2, h3, h4, h5, h6, h7⟩ := h.is
  have HFd := Lib.hid (fun W (hb : Below w.heap.size w W) => find_calls ac A2 c2 a W (Kd.C_below h4 hb) h5)
  have HV : Hid (coresQ q ac l a = if rightQ q ac = true then (if (findA ac a).2 = true then (usedQ ac l a, 0) else (0, 141)) else (0, 2)) := Lib.hid rfl
  clear h hr hc T h0 h1 h2 h3 h4 h5 h6 h7 has
  have HO : Hid ((w.alloc (.cells (cfgV A0 l0.length c0 A1 l1.length c1 A2 ac.length c2 A3 q.length c3 pl) 28)).heap[w.heap.size]? = some (.cells (cfgV A0 l0.length c0 A1 l1.length c1 A2 ac.length c2 A3 q.length c3 pl) 28 (0, 0))) := Lib.hid (heap_alloc_new w _)
  have HB := Lib.hid (below_alloc (Below.refl w.heap.size w) (.cells (cfgV A0 l0.length c0 A1 l1.length c1 A2 ac.length c2 A3 q.length c3 pl) 28))
  go_enter Try.func11, Try.ntmps11
  go_upto_region 1 with (fail)
  generalize w.alloc _ = W at HO HB ⊢
  obtain ⟨g, hg⟩ : ∃ g, g = w.heap.size := ⟨_, rfl⟩
  rw [← hg] at HO ⊢
  clear hg
  go_wp2_with (first | ((with_reducible refine gate_ (.load 28 (.tmp 3)) rfl ?_); refine wl_load 28 (.tmp 3) rfl rfl _ _ rfl (cfg_ld HO.out) ?_) | fail)
  refine (HRt.out _ HB.out).mono ?_
  rintro e w1 ⟨rfl, hb⟩
  have HO1 := Lib.hid ((hb.block g (blk_lt HO.out)).trans HO.out)
  have HB1 := Lib.hid (below_then HB.out HB.out.size hb)
  clear hb HRt HO HB
  cases hq : rightQ q ac with
  | false =>
    have HE : Hid (coresQ q ac l a = (0, 2)) := Lib.hid (by rw [HV.out, hq]; rfl)
    go_wp2
    go_ret2
    exact ⟨by rw [HE.out]; rfl, HB1.out⟩
  | true =>
    have c2' : w1.cell? ⟨g, 2, none⟩ = some (.slice A2 ac.length c2) := (blk_cell HO1.out 2).trans rfl
    have HQ := Lib.hid hq
    clear hq
    go_wp2_with fail
    refine (HFd.out _ HB1.out).mono ?_
    rintro e w2 ⟨rfl, hb⟩
    have HO2 := Lib.hid ((hb.block g (blk_lt HO1.out)).trans HO1.out)
    have HB2 := Lib.hid (below_then HB1.out HB1.out.size hb)
    clear hb HFd HO1 HB1 c2'
    obtain ⟨⟨p, t⟩, hf⟩ : ∃ r, r = findA ac a := ⟨_, rfl⟩
    rw [← hf]
    rw [← hf] at HV
    clear hf
    cases t with
    | false =>
      have HE : Hid (coresQ q ac l a = (0, 141)) := Lib.hid (by rw [HV.out, HQ.out]; rfl)
      go_wp2
      go_ret2
      exact ⟨by rw [HE.out]; rfl, HB2.out⟩
    | true =>
      have HE : Hid (coresQ q ac l a = (usedQ ac l a, 0)) := Lib.hid (by rw [HV.out, HQ.out]; rfl)
      go_wp2_with (first | ((with_reducible refine gate_ (.load 28 (.tmp 3)) rfl ?_); refine wl_load 28 (.tmp 3) rfl rfl _ _ rfl (cfg_ld HO2.out) ?_) | fail)
      refine (HUs.out _ HB2.out).mono ?_
      rintro e w3 ⟨rfl, hb⟩
      have HB3 := Lib.hid (below_then HB2.out HB2.out.size hb)
      clear hb HUs
      go_wp2
      go_ret2
      exact ⟨by rw [HE.out]; rfl, HB3.out⟩
set_option maxRecDepth 100000 in
set_option maxHeartbeats 4000000 in
theorem qos_calls {w : World} {cs : Array Value} {q : List S59} {ac : List S57} (h : Cfg w cs q ac) (l : List S53) (A : Option Addr) (c : Nat) (name : ByteArray) (hr : Kd.C k53 w A l.length l) (hc : l.length ≤ c) (T : Tame l) :
    Calls Try.prog 13 #[.agg cs, .slice A l.length c, .string name] w fun e w' => e = .returned (.tuple #[.int .i64 (qosQ q ac l name).1, .int .i64 (qosQ q ac l name).2.1, .int .i64 (qosQ q ac l name).2.2]) ∧ Below w.heap.size w w' := by
  have hmf : ∀ (fn : Fn) (first cap : Array Value) (w : World), (Instr.makeFunc fn first cap).run Try.prog w = .ok (.func fn first cap) w := fun _ _ _ _ => rfl
  have he : ∀ args w, (callFunc 35 args).run Try.prog w = .ok (.enter 35 args) w := enters_of Try.func35 (by kernel_rfl) rfl
  have HRt := Lib.hid (fun W (hb : Below w.heap.size w W) => cright_calls (h.below hb))
  obtain ⟨A0, c0, l0, A1, c1, l1, A2, c2, A3, c3, pl, rfl, h0, h1, h2, h3, h4, h5, h6, h7⟩ := h.is
  have HFd := Lib.hid (fun W (hb : Below w.heap.size w W) => qfind_calls q A3 c3 name W (Kd.C_below h6 hb) h7)
  have HCt := Lib.hid (fun W (hb : Below w.heap.size w W) (b : Nat) (h1 : W.cell? ⟨b, 0, none⟩ = some (.string name)) =>
    count_calls l A c W (Kd.C_below hr hb) hc T 35 #[.pointer (some ⟨b, 0, none⟩)] he (qosP name) (fun x A7 c7 W1 hb1 => qos1_calls x A7 c7 b name W1 ((hb1.cell (World.block_lt_of_cell? W _ h1)).trans h1)))
  have HV : Hid (qosQ q ac l name = if rightQ q ac = true then (if q.any (isQ name) = true then (sumQ (qosP name) l, ((numQ (qosP name) l : Nat) : Int), 0) else (0, 0, 141)) else (0, 0, 2)) := Lib.hid rfl
  clear h hr hc T h0 h1 h2 h3 h4 h5 h6 h7
  have HO : Hid (((w.alloc (.cells (cfgV A0 l0.length c0 A1 l1.length c1 A2 ac.length c2 A3 q.length c3 pl) 28)).alloc (.cells #[.string name] 9)).heap[w.heap.size]? = some (.cells (cfgV A0 l0.length c0 A1 l1.length c1 A2 ac.length c2 A3 q.length c3 pl) 28 (0, 0))) := Lib.hid (((below_alloc (Below.refl _ _) _).block _ (new_lt w _)).trans (heap_alloc_new w _))
  have HN : Hid (((w.alloc (.cells (cfgV A0 l0.length c0 A1 l1.length c1 A2 ac.length c2 A3 q.length c3 pl) 28)).alloc (.cells #[.string name] 9)).cell? ⟨w.heap.size + 1, 0, none⟩ = some (.string name)) := Lib.hid (by rw [← World.size_alloc w (.cells (cfgV A0 l0.length c0 A1 l1.length c1 A2 ac.length c2 A3 q.length c3 pl) 28)]; exact new_one _ _ _)
  have HB := Lib.hid (below_alloc (below_alloc (Below.refl w.heap.size w) (.cells (cfgV A0 l0.length c0 A1 l1.length c1 A2 ac.length c2 A3 q.length c3 pl) 28)) (.cells #[.string name] 9))
  go_enter Try.func13, Try.ntmps13
  go_upto_region 1 with (fail)
  generalize (w.alloc _).alloc _ = W at HO HN HB ⊢
  obtain ⟨g, hg⟩ : ∃ g, g = w.heap.size := ⟨_, rfl⟩
  rw [← hg] at HO HN ⊢
  clear hg
  go_wp2_with (first | ((with_reducible refine gate_ (.load 28 (.tmp 3)) rfl ?_); refine wl_load 28 (.tmp 3) rfl rfl _ _ rfl (cfg_ld HO.out) ?_) | fail)
  refine (HRt.out _ HB.out).mono ?_
  rintro e w1 ⟨rfl, hb⟩
  have HO1 := Lib.hid ((hb.block g (blk_lt HO.out)).trans HO.out)
  have HN1 := Lib.hid (pw_cell_below hb HN.out)
  have HB1 := Lib.hid (below_then HB.out HB.out.size hb)
  clear hb HRt HO HB HN
  cases hq : rightQ q ac with
  | false =>
    have HE : Hid (qosQ q ac l name = (0, 0, 2)) := Lib.hid (by rw [HV.out, hq]; rfl)
    go_wp2
    go_ret3
    exact ⟨by rw [HE.out]; rfl, HB1.out⟩
  | true =>
    have c3' : w1.cell? ⟨g, 3, none⟩ = some (.slice A3 q.length c3) := (blk_cell HO1.out 3).trans rfl
    have cn : w1.cell? ⟨g + 1, 0, none⟩ = some (.string name) := HN1.out
    have HQ := Lib.hid hq
    clear hq
    go_wp2_with fail
    refine (HFd.out _ HB1.out).mono ?_
    rintro e w2 ⟨rfl, hb⟩
    have HN2 := Lib.hid (pw_cell_below hb HN1.out)
    have HB2 := Lib.hid (below_then HB1.out HB1.out.size hb)
    have HG := Lib.hid (idxOf_ge q (isQ name))
    clear hb HFd HO1 HB1 HN1 c3' cn
    obtain ⟨i, hi⟩ : ∃ i, i = idxOf q (isQ name) := ⟨_, rfl⟩
    rw [← hi] at HG ⊢
    clear hi
    by_cases hneg : i < 0
    · have HE : Hid (qosQ q ac l name = (0, 0, 141)) := Lib.hid (by rw [HV.out, HQ.out, ← HG.out, decide_eq_false (by omega : ¬ i ≥ 0)]; rfl)
      go_wp2
      go_ret3
      exact ⟨by rw [HE.out]; rfl, HB2.out⟩
    · have HE : Hid (qosQ q ac l name = (sumQ (qosP name) l, ((numQ (qosP name) l : Nat) : Int), 0)) := Lib.hid (by rw [HV.out, HQ.out, ← HG.out, decide_eq_true (by omega : i ≥ 0)]; rfl)
      go_wp2_with fail
      refine (HCt.out _ HB2.out (g + 1) HN2.out).mono ?_
      rintro e w3 ⟨rfl, hb⟩
      have HB3 := Lib.hid (below_then HB2.out HB2.out.size hb)
      clear hb HCt
      go_wp2
      go_ret3
      exact ⟨by rw [HE.out]; rfl, HB3.out⟩
def tameL (ac : List S57) (l : List S53) : Bool := l.all (fun x => tameS x.f3) && decide (l.length ≤ 1000000) && decide (ac.length < 9000000000000000000)
theorem tameL_iff {ac : List S57} {l : List S53} : tameL ac l = true ↔ Tame l ∧ ac.length < 9000000000000000000 := by
  unfold tameL Tame
  rw [Bool.and_eq_true, Bool.and_eq_true, decide_eq_true_iff, decide_eq_true_iff, List.all_eq_true]
end Go.Proofs.Ytcnobkcddgcifaa.PT
