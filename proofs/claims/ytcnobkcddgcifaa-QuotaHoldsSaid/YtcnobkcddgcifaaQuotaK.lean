/- The law's examples. (A part of the print PT.) -/
import Derived.Test.YtcnobkcddgcifaaQuotaJ
set_option linter.unusedVariables false
set_option linter.unusedSimpArgs false
namespace Go.Proofs.Ytcnobkcddgcifaa.PT
open Go.RowKit Go.Proofs.YtcnobkcddgcifaaW.PrintWords Go.Proofs.YtcnobkcddgcifaaW.PrintLast Go.Proofs.YtcnobkcddgcifaaW.PrintMore Go.Proofs.Ytcnobkcddgcifaa.Gen Go.Proofs.Ytcnobkcddgcifaa.EvK
/-- A row that was laid down reads as its elements. -/
theorem C_lit {α : Type} (d : Kd α) {w : World} {g t : Nat} {cells : Array Value} (h : w.heap[g]? = some (.cells cells t (0, 0))) (xs : List α) (css : Nat → List Value) (hl : xs.length ≤ 1000) (hk : ∀ j x, xs[j]? = some x → (css j).length = d.sz ∧ d.K w x (css j) ∧ ∀ i v, (css j)[i]? = some v → cells[j * d.sz + i]? = some v) : Kd.C d w (some ⟨g, 0, none⟩) xs.length xs := by
  refine ⟨rfl, by omega, fun _ => ⟨_, rfl, fun j x hx => ?_⟩⟩
  obtain ⟨h1, h2, h3⟩ := hk j x hx
  refine ⟨css j, h1, h2, fun i v hv => ?_⟩
  rw [Addr.add_mid, Nat.zero_add, blk_cell h]
  exact h3 i v hv
theorem exec_loadC {P : Program} {o : Oper} {a : Act} {t : TypeId} {x : Operand} {p V : Value} {w' : World} (ho : o.op = .load t x) (hx : a.eval x = p) (hld : (Instr.loadAt t p).run P w' = .ok V w') : (execOp a.eval o).run P w' = .ok (.value V) w' := by
  unfold execOp
  rw [ho]
  simp only [hx, Sem.run_bind, hld, Result.andThen_ok]
  rfl
section
variable {P : Program} {ops : Array Oper} {Q : Exit → Act → World → Prop}
/-- A function's value is called. -/
theorem goesV_ {oi : Oper} {N : Option Tmp} {a : Act} {w : World} {K : Act → World → Prop} {f : FuncId} {fn : Func} {as' : Array Operand} {ts : Array TypeId} (x : Operand) (hf : P.funcs[f]? = some fn) (hname : (fn.name == "runtime.NumGoroutine") = false) (hb : fn.body.isSome = true) (args : Array Value)
    (hw : Region.wanted oi (yielded ops a.tmps) = true) (hN : oi.dst = N) (hop : oi.op = .call { callee := .value x, args := as', argTypes := ts }) (hx : a.eval x = .func (.func f) #[] #[]) (hargs : as'.map a.eval = args)
    (h : Calls P f args w fun e w' => ∃ v, e = .returned v ∧ K (a.put N v) w') : if Region.wanted oi (yielded ops a.tmps) = true then Oper.wp P oi a w K Q else K (a.put N undef) w := by
  refine call_ f args hw hN ?_ h
  have he := enters_ hf hname hb args w
  unfold execOp
  simp [hop, resolve, Deferred.ofValue, invoke, hx, hargs, he]
end
abbrev sAll : ByteArray := ⟨#[97, 108, 108]⟩
abbrev sPhys : ByteArray := ⟨#[112, 104, 121, 115]⟩
abbrev sNorm : ByteArray := ⟨#[110, 111, 114, 109, 97, 108]⟩
def acE : List S57 := [⟨sAll, ⟨#[]⟩, 10⟩, ⟨sPhys, sAll, 8⟩]
def qE : List S59 := [⟨sNorm, 0, -1, 2⟩]
def jE1 : S53 := ⟨0, 0, 0, ⟨⟨#[]⟩, sPhys, sNorm, ⟨#[]⟩, 2, 3, 0, []⟩, 2, 0, 0, 0, 0, 0⟩
def jE2 : S53 := ⟨0, 0, 0, askS sAll 1, 2, 0, 0, 0, 0, 0⟩
theorem right_E : rightQ qE acE = true := by decide +kernel
theorem cores_E : coresQ qE acE [jE1] sAll = (6, 0) := by decide +kernel
theorem qos_E : qosQ qE acE [jE1] sNorm = (6, 1, 0) := by decide +kernel
theorem may_E1 : mayQ qE acE [jE1] (askS sPhys 2) = 0 := by decide +kernel
theorem may_E2 : mayQ qE acE [jE1] (askS sPhys 3) = 150 := by decide +kernel
theorem may_E3 : mayQ qE acE [jE1] (askS sAll 4) = 0 := by decide +kernel
theorem may_E4 : mayQ qE acE [jE1, jE2] (askS sAll 1) = 150 := by decide +kernel
theorem infoJobZ : (Try.prog.info? 53).map (fun i => (i.zero, i.size, i.bytes)) = some (some (.agg #[.int .i64 0, .int .i64 0, .int .i64 0, .string ⟨#[]⟩, .string ⟨#[]⟩, .string ⟨#[]⟩, .string ⟨#[]⟩, .int .i64 0, .int .i64 0, .int .i64 0, .slice none 0 0, .int .u8 0, .int .i64 0, .int .i64 0, .int .i64 0, .int .u32 0, .int .i64 0]), 17, 184) := by kernel_rfl
def awake15.T7 : Bool × List (List Nat × List Nat) := (true, [([], []), ([0], [0]), ([1, 1], [1]), ([2], [2]), ([3, 2], [2, 3]), ([2, 4], [2, 4]), ([5, 2], [5]), ([6], [6]), ([7, 6], [6, 7]), ([6, 8], [6, 8]), ([9, 6], [9]), ([10], [10]), ([11, 10], [10, 11]), ([10, 12], [10, 12]), ([13, 10], [13]), ([14], [14]), ([15, 14], [14, 15]), ([14, 16], [14, 16]), ([17, 14], [17]), ([18], [18]), ([19, 18], [18, 19]), ([18, 20], [18, 20]), ([21, 18], [21]), ([22], [22]), ([22], [22]), ([22], [22]), ([25, 22, 22], [22, 25]), ([23, 24, 26, 26, 22], [22, 23, 24, 26]), ([27, 22], [22, 27]), ([22, 28], [22, 28]), ([29, 27], [29]), ([30], [30]), ([30], [30]), ([30], [30]), ([33, 30, 30], [30, 33]), ([31, 32, 34, 34, 30], [30, 31, 32, 34]), ([35, 30], [30, 35]), ([30, 36], [30, 36]), ([37, 35], [37]), ([38], [38]), ([38], [38]), ([38], [38]), ([41, 38, 38], [38, 41]), ([39, 40, 42, 42, 38], [38, 39, 40, 42]), ([43, 38], [38, 43]), ([38, 44], [38, 44]), ([45, 43], [45]), ([46], [46]), ([46], [46]), ([46], [46]), ([49, 46, 46], [46, 49]), ([47, 48, 50, 50, 46], [46, 47, 48, 50]), ([51, 46], [46, 51]), ([46, 52], [46, 52]), ([53, 51, 0, 1, 2, 3, 4, 5, 6, 7, 8, 9, 10, 11, 12, 13, 14, 15, 16, 17, 18, 19, 20, 21, 22, 23, 24, 25, 26, 27, 28, 29, 30, 31, 32, 33, 34, 35, 36, 37, 38, 39, 40, 41, 42, 43, 44, 45, 46, 47, 48, 49, 50, 51, 52, 53], [53])])
def awake15.B7 : List Nat := [0, 1, 3, 7, 15, 31, 63, 127, 255, 511, 1023, 2047, 4095, 8191, 16383, 32767, 65535, 131071, 262143, 524287, 1048575, 2097151, 4194303, 8388607, 8388607, 8388607, 41943039, 134217727, 268435455, 536870911, 1073741823, 2147483647, 2147483647, 2147483647, 10737418239, 34359738367, 68719476735, 137438953471, 274877906943, 549755813887, 549755813887, 549755813887, 2748779069439, 8796093022207, 17592186044415, 35184372088831, 70368744177663, 140737488355327, 140737488355327, 140737488355327, 703687441776639, 2251799813685247, 4503599627370495, 9007199254740991, 18014398509481983]
theorem awake15.tab7 : rtab .any (opsOf Try.f8 7) = awake15.T7 := by kernel_rfl
theorem awake15.bits7 : waitsOk awake15.T7.2 awake15.B7 = true := by kernel_rfl
set_option maxRecDepth 100000 in
set_option maxHeartbeats 8000000 in
theorem awake15_calls (w : World) : Calls Try.prog 8 #[] w fun e w' => e = .returned (.bool true) ∧ Below w.heap.size w w' := by
  go_enter Try.func8, Try.ntmps8
  go_upto_region 2 with (fail)
  have hA : (((w.alloc (.cells #[.string sAll, .string ⟨#[]⟩, .int .i64 10, .string sPhys, .string sAll, .int .i64 8] 57)).alloc (.cells #[.string sNorm, .int .i64 0, .int .i64 (-1), .int .i64 2] 59)).alloc (.cells (cfgV none 0 0 none 0 0 (some ⟨w.heap.size, 0, none⟩) 2 2 (some ⟨w.heap.size + 1, 0, none⟩) 1 1 0) 28)).heap[w.heap.size]? = some (.cells #[.string sAll, .string ⟨#[]⟩, .int .i64 10, .string sPhys, .string sAll, .int .i64 8] 57 (0, 0)) := ((below_alloc (below_alloc (Below.refl (w.alloc (.cells #[.string sAll, .string ⟨#[]⟩, .int .i64 10, .string sPhys, .string sAll, .int .i64 8] 57)).heap.size _) _) _).block w.heap.size (new_lt w _)).trans (heap_alloc_new w _)
  have hQ : (((w.alloc (.cells #[.string sAll, .string ⟨#[]⟩, .int .i64 10, .string sPhys, .string sAll, .int .i64 8] 57)).alloc (.cells #[.string sNorm, .int .i64 0, .int .i64 (-1), .int .i64 2] 59)).alloc (.cells (cfgV none 0 0 none 0 0 (some ⟨w.heap.size, 0, none⟩) 2 2 (some ⟨w.heap.size + 1, 0, none⟩) 1 1 0) 28)).heap[w.heap.size + 1]? = some (.cells #[.string sNorm, .int .i64 0, .int .i64 (-1), .int .i64 2] 59 (0, 0)) := by
    rw [← World.size_alloc w (.cells #[.string sAll, .string ⟨#[]⟩, .int .i64 10, .string sPhys, .string sAll, .int .i64 8] 57)]
    exact ((below_alloc (Below.refl ((w.alloc (.cells #[.string sAll, .string ⟨#[]⟩, .int .i64 10, .string sPhys, .string sAll, .int .i64 8] 57)).alloc (.cells #[.string sNorm, .int .i64 0, .int .i64 (-1), .int .i64 2] 59)).heap.size _) _).block _ (new_lt _ _)).trans (heap_alloc_new _ _)
  have hC : (((w.alloc (.cells #[.string sAll, .string ⟨#[]⟩, .int .i64 10, .string sPhys, .string sAll, .int .i64 8] 57)).alloc (.cells #[.string sNorm, .int .i64 0, .int .i64 (-1), .int .i64 2] 59)).alloc (.cells (cfgV none 0 0 none 0 0 (some ⟨w.heap.size, 0, none⟩) 2 2 (some ⟨w.heap.size + 1, 0, none⟩) 1 1 0) 28)).heap[w.heap.size + 1 + 1]? = some (.cells (cfgV none 0 0 none 0 0 (some ⟨w.heap.size, 0, none⟩) 2 2 (some ⟨w.heap.size + 1, 0, none⟩) 1 1 0) 28 (0, 0)) := by
    have e : ((w.alloc (.cells #[.string sAll, .string ⟨#[]⟩, .int .i64 10, .string sPhys, .string sAll, .int .i64 8] 57)).alloc (.cells #[.string sNorm, .int .i64 0, .int .i64 (-1), .int .i64 2] 59)).heap.size = w.heap.size + 1 + 1 := by rw [World.size_alloc, World.size_alloc]
    rw [← e]
    exact heap_alloc_new _ _
  have hB : Below w.heap.size w (((w.alloc (.cells #[.string sAll, .string ⟨#[]⟩, .int .i64 10, .string sPhys, .string sAll, .int .i64 8] 57)).alloc (.cells #[.string sNorm, .int .i64 0, .int .i64 (-1), .int .i64 2] 59)).alloc (.cells (cfgV none 0 0 none 0 0 (some ⟨w.heap.size, 0, none⟩) 2 2 (some ⟨w.heap.size + 1, 0, none⟩) 1 1 0) 28)) := below_alloc (below_alloc (below_alloc (Below.refl _ _) _) _) _
  have HA := Lib.hid hA
  have HQ := Lib.hid hQ
  have HC := Lib.hid hC
  have HB := Lib.hid hB
  clear hA hQ hC hB
  unfold cfgV at HA HQ HC HB
  generalize ((w.alloc _).alloc _).alloc _ = W at HA HQ HC HB ⊢
  obtain ⟨g, hg⟩ : ∃ g, g = w.heap.size := ⟨_, rfl⟩
  rw [← hg] at HA HQ HC ⊢
  clear hg
  go_upto_region 4 with (fail)
  have HJ := Lib.hid (heap_alloc_new W (.cells (jobC jE1 none 0) 53))
  have HA1 := Lib.hid (((below_alloc (Below.refl W.heap.size W) (.cells (jobC jE1 none 0) 53)).block g (blk_lt HA.out)).trans HA.out)
  have HQ1 := Lib.hid (((below_alloc (Below.refl W.heap.size W) (.cells (jobC jE1 none 0) 53)).block (g + 1) (blk_lt HQ.out)).trans HQ.out)
  have HC1 := Lib.hid (((below_alloc (Below.refl W.heap.size W) (.cells (jobC jE1 none 0) 53)).block (g + 1 + 1) (blk_lt HC.out)).trans HC.out)
  have HB1 := Lib.hid (below_alloc HB.out (.cells (jobC jE1 none 0) 53))
  unfold jobC jE1 at HJ HA1 HQ1 HC1 HB1
  simp only [List.length_nil] at HJ HA1 HQ1 HC1 HB1
  generalize W.alloc _ = W1 at HJ HA1 HQ1 HC1 HB1 ⊢
  obtain ⟨gj, hgj⟩ : ∃ x, x = W.heap.size := ⟨_, rfl⟩
  rw [← hgj] at HJ ⊢
  clear hgj HA HQ HC HB
  have HKj := Lib.hid (show Kd.C k53 W1 (some ⟨gj, 0, none⟩) [jE1].length [jE1] from C_lit k53 HJ.out [jE1] (fun _ => (jobC jE1 none 0).toList) (by decide) (fun j x hx => by
    match j, hx with
    | 0, hx => exact (Option.some.inj hx) ▸ ⟨rfl, k53_mk _ jE1 (c10 := 0) (Nat.le_refl _) (Kd.C_nil _ _), fun i v hv => by rw [Nat.zero_mul, Nat.zero_add, List.getElem?_toArray]; exact hv⟩))
  have HCf := Lib.hid (show Cfg W1 (cfgV none 0 0 none 0 0 (some ⟨g, 0, none⟩) 2 2 (some ⟨g + 1, 0, none⟩) 1 1 0) qE acE from ⟨none, 0, [], none, 0, [], some ⟨g, 0, none⟩, 2, some ⟨g + 1, 0, none⟩, 1, 0, rfl, Kd.C_nil _ _, Nat.le_refl _, Kd.C_nil _ _, Nat.le_refl _,
    C_lit k57 HA1.out acE (fun j => if j = 0 then [.string sAll, .string ⟨#[]⟩, .int .i64 10] else [.string sPhys, .string sAll, .int .i64 8]) (by decide) (fun j x hx => by
      match j, hx with
      | 0, hx => exact (Option.some.inj hx) ▸ ⟨rfl, k57_mk _ _, fun i v hv => by
          match i, hv with
          | 0, hv => exact hv
          | 1, hv => exact hv
          | 2, hv => exact hv⟩
      | 1, hx => exact (Option.some.inj hx) ▸ ⟨rfl, k57_mk _ _, fun i v hv => by
          match i, hv with
          | 0, hv => exact hv
          | 1, hv => exact hv
          | 2, hv => exact hv⟩), Nat.le_refl _,
    C_lit k59 HQ1.out qE (fun _ => [.string sNorm, .int .i64 0, .int .i64 (-1), .int .i64 2]) (by decide) (fun j x hx => by
      match j, hx with
      | 0, hx => exact (Option.some.inj hx) ▸ ⟨rfl, k59_mk _ _, fun i v hv => by rw [Nat.zero_mul, Nat.zero_add, List.getElem?_toArray]; exact hv⟩), Nat.le_refl _⟩)
  have he : ∀ args w, (callFunc 22 args).run Try.prog w = .ok (.enter 22 args) w := enters_of Try.func22 (by kernel_rfl) rfl
  have HT1 := Lib.hid (show Tame [jE1] from ⟨fun x hx => by rw [List.mem_singleton.1 hx]; decide, by decide⟩)
  have HT2 := Lib.hid (show Tame [jE1, jE2] from ⟨fun x hx => by
    rcases List.mem_cons.1 hx with h | h
    · rw [h]; decide
    · rw [List.mem_singleton.1 h]; decide, by decide⟩)
  have HCo := Lib.hid (show Calls Try.prog 11 #[.agg (cfgV none 0 0 none 0 0 (some ⟨g, 0, none⟩) 2 2 (some ⟨g + 1, 0, none⟩) 1 1 0), .slice (some ⟨gj, 0, none⟩) 1 1, .string sAll] W1 fun e w' => e = .returned (.tuple #[.int .i64 6, .int .i64 0]) ∧ Below W1.heap.size W1 w' by
    have := cores_calls HCf.out (by decide) [jE1] (some ⟨gj, 0, none⟩) 1 sAll HKj.out (by decide) HT1.out
    rw [cores_E] at this
    exact this)
  have HQo := Lib.hid (fun W2 (hb : Below W1.heap.size W1 W2) => show Calls Try.prog 13 #[.agg (cfgV none 0 0 none 0 0 (some ⟨g, 0, none⟩) 2 2 (some ⟨g + 1, 0, none⟩) 1 1 0), .slice (some ⟨gj, 0, none⟩) 1 1, .string sNorm] W2 fun e w' => e = .returned (.tuple #[.int .i64 6, .int .i64 1, .int .i64 0]) ∧ Below W2.heap.size W2 w' by
    have := qos_calls (HCf.out.below hb) [jE1] (some ⟨gj, 0, none⟩) 1 sNorm (Kd.C_below HKj.out hb) (by decide) HT1.out
    rw [qos_E] at this
    exact this)
  have HRo := Lib.hid (fun W2 (hb : Below W1.heap.size W1 W2) => show Calls Try.prog 15 #[.agg (cfgV none 0 0 none 0 0 (some ⟨g, 0, none⟩) 2 2 (some ⟨g + 1, 0, none⟩) 1 1 0)] W2 fun e w' => e = .returned (.bool true) ∧ Below W2.heap.size W2 w' by
    have := cright_calls (HCf.out.below hb)
    rw [right_E] at this
    exact this)
  have HMo := Lib.hid (fun W2 (hb : Below W1.heap.size W1 W2) (a : ByteArray) (n r : Int) (h : mayQ qE acE [jE1] (askS a n) = r) (hn : tameS (askS a n) = true) => show Calls Try.prog 17 #[.agg (cfgV none 0 0 none 0 0 (some ⟨g, 0, none⟩) 2 2 (some ⟨g + 1, 0, none⟩) 1 1 0), .slice (some ⟨gj, 0, none⟩) 1 1, .agg (specC (askS a n) none 0)] W2 fun e w' => e = .returned (.int .i64 r) ∧ Below W2.heap.size W2 w' by
    have := cmay_calls (HCf.out.below hb) (by decide) [jE1] (some ⟨gj, 0, none⟩) 1 (Kd.C_below HKj.out hb) (by decide) HT1.out (askS a n) hn none 0 (Kd.C_nil _ _) (Nat.le_refl _)
    rw [h] at this
    exact this)
  have HMt := Lib.hid (fun W2 (hb : Below W1.heap.size W1 W2) (A' : Option Addr) (c' : Nat) (h1 : Kd.C k53 W2 A' 2 [jE1, jE2]) (h2 : 2 ≤ c') => show Calls Try.prog 17 #[.agg (cfgV none 0 0 none 0 0 (some ⟨g, 0, none⟩) 2 2 (some ⟨g + 1, 0, none⟩) 1 1 0), .slice A' 2 c', .agg (specC (askS sAll 1) none 0)] W2 fun e w' => e = .returned (.int .i64 150) ∧ Below W2.heap.size W2 w' by
    have := cmay_calls (HCf.out.below hb) (by decide) [jE1, jE2] A' c' h1 h2 HT2.out (askS sAll 1) (by decide) none 0 (Kd.C_nil _ _) (Nat.le_refl _)
    rw [may_E4] at this
    exact this)
  have HCp := Lib.hid (fun W2 (hb : Below W1.heap.size W1 W2) => show Calls Try.prog 10 #[.slice (some ⟨gj, 0, none⟩) 1 1] W2 fun e w' => ∃ A' c', e = .returned (.slice A' 1 c') ∧ Kd.R k53 53 w' W2.heap.size (fun _ => True) (.slice A' 1 c') [jE1] ∧ Below W2.heap.size W2 w' from
    copyJ_calls [jE1] (by decide) (fun x hx => by rw [List.mem_singleton.1 hx]; decide) (some ⟨gj, 0, none⟩) 1 W2 (Kd.C_below HKj.out hb) (by decide))
  clear HT1 HT2 HKj HCf HA1 HQ1 HJ
  go_wp2_with (first | ((with_reducible refine gate_ (.load 28 (.tmp 1)) rfl ?_); refine wl_load 28 (.tmp 1) rfl rfl _ _ rfl (cfg_ld HC1.out) ?_) | fail)
  refine HCo.out.mono ?_
  rintro e w2 ⟨rfl, hb⟩
  have HB2 := Lib.hid hb
  have HC2 := Lib.hid ((hb.block (g + 1 + 1) (blk_lt HC1.out)).trans HC1.out)
  clear hb HCo
  go_wp2_with (first | ((with_reducible refine gate_ (.load 28 (.tmp 1)) rfl ?_); refine wl_load 28 (.tmp 1) rfl rfl _ _ rfl (cfg_ld HC2.out) ?_) | fail)
  refine (HQo.out _ HB2.out).mono ?_
  rintro e w3 ⟨rfl, hb⟩
  have HB3 := Lib.hid (below_then HB2.out HB2.out.size hb)
  have HC3 := Lib.hid ((hb.block (g + 1 + 1) (blk_lt HC2.out)).trans HC2.out)
  clear hb HQo HB2 HC2
  go_wp2_with fail
  refine (HCp.out _ HB3.out).mono ?_
  rintro e w4 ⟨A', c', rfl, hR, hb⟩
  have HR4 := Lib.hid hR
  have HB34 := Lib.hid hb
  have HB4 := Lib.hid (below_then HB3.out HB3.out.size hb)
  have HC4 := Lib.hid ((hb.block (g + 1 + 1) (blk_lt HC3.out)).trans HC3.out)
  clear hb hR HCp
  go_wp2_with fail
  refine (ask_calls sAll 1 _).mono ?_
  rintro e w5 ⟨rfl, hb⟩
  unfold specC askS
  simp only [List.length_nil]
  have HR5 := Lib.hid (Kd.R_below HR4.out hb)
  have HB35 := Lib.hid (below_then HB34.out HB34.out.size hb)
  have HB5 := Lib.hid (below_then HB4.out HB4.out.size hb)
  have HC5 := Lib.hid ((hb.block (g + 1 + 1) (blk_lt HC4.out)).trans HC4.out)
  clear hb HR4 HB34 HB4 HC4
  go_upto_region 7 with ((with_reducible refine gate_builtin (b := .append) (xs := #[.tmp 33, .tmp 37]) rfl ?_); at_builtin; refine Kd.R_append k53 (w0 := w3) w3.heap.size rfl (.tmp 33) (.tmp 37) 29 53 (.agg #[.int .i64 0, .int .i64 0, .int .i64 0, .string ⟨#[]⟩, .string ⟨#[]⟩, .string ⟨#[]⟩, .string ⟨#[]⟩, .int .i64 0, .int .i64 0, .int .i64 0, .slice none 0 0, .int .u8 0, .int .i64 0, .int .i64 0, .int .i64 0, .int .u32 0, .int .i64 0]) 184 rfl Try.underlying29 infoJobZ rfl (by decide) (by decide) (.slice A' 1 c') [jE1] jE2 [.int .i64 0, .int .i64 0, .int .i64 0, .string ⟨#[]⟩, .string sAll, .string sNorm, .string ⟨#[]⟩, .int .i64 1, .int .i64 1, .int .i64 0, .slice none 0 0, .int .u8 2, .int .i64 0, .int .i64 0, .int .i64 0, .int .u32 0, .int .i64 0] (fun _ => True) (fun _ => False) rfl rfl (k53_mkM _ _ _ jE2 (Kd.R_nil _ _ _ _ _)) (fun _ hk => hk.elim) (fun _ _ => trivial) HR5.out HB35.out HB35.out.size (by decide) ?_; intro v6 w6 ho hb hg _; obtain ⟨A6, c6, hv⟩ := Kd.R_slice ho; subst hv; have HR6 := Lib.hid (show Kd.C k53 w6 A6 2 [jE1, jE2] ∧ 2 ≤ c6 from ⟨(Kd.R_reads' ho).2.2, (Kd.R_reads' ho).2.1⟩); have HB36 := Lib.hid hb; have HB6 := Lib.hid (below_then HB3.out HB3.out.size hb); have HC6 := Lib.hid ((hb.block (g + 1 + 1) (blk_lt HC3.out)).trans HC3.out); clear ho hb hg)
  have HBd := Lib.hid (below_drew (Below.refl w6.heap.size w6))
  have HRd := Lib.hid (cfg_ld (w := w6.drew) HC6.out)
  clear HR5 HB35 HB5 HC5 HC1 HC3 HB36 HB3
  refine start_ (n := 55) (S := fun w' => (Instr.loadAt 28 (.pointer (some ⟨g + 1 + 1, 0, none⟩))).run Try.prog w' = .ok (.agg (cfgV none 0 0 none 0 0 (some ⟨g, 0, none⟩) 2 2 (some ⟨g + 1, 0, none⟩) 1 1 0)) w') (ds := []) #[false, false, false, false, false, false, false, false, false, false, false, false, false, false, false, false, false, false, false, false, false, false, false, false, false, false, false, false, false, false, false, false, false, false, false, false, false, false, false, false, false, false, false, false, false, false, false, false, false, false, false, false, false, false, false] (by kernel_rfl) rfl rfl (HRd.out) (fun hHeld => ?_)
  refine with_tabW awake15.tab7 awake15.bits7 (fun HT_ HW_ => ?_)
  refine take_ (i := 0) (N := some 39) (v := ?_) (a' := ?_) #[true, false, false, false, false, false, false, false, false, false, false, false, false, false, false, false, false, false, false, false, false, false, false, false, false, false, false, false, false, false, false, false, false, false, false, false, false, false, false, false, false, false, false, false, false, false, false, false, false, false, false, false, false, false, false] rfl rfl (take_ofW HT_.out HW_.out (by kernel_rfl)) (fun _ _ _ h => h) (Or.inl ⟨by rfl, ?_⟩) hHeld ?_ ?_
  rotate_left
  · intro w' s0
    refine Eq.trans (exec_loadC (by rfl) (by rfl) s0) ?_
    with_reducible rfl
  rotate_left
  · simp only [Act.put, List.setIfInBounds_toArray, List.set_cons_zero, List.set_cons_succ, i64_w, i32_w]
    rfl
  refine one_ (i := 1) (N := some 40) #[true, true, false, false, false, false, false, false, false, false, false, false, false, false, false, false, false, false, false, false, false, false, false, false, false, false, false, false, false, false, false, false, false, false, false, false, false, false, false, false, false, false, false, false, false, false, false, false, false, false, false, false, false, false, false] rfl rfl (one_of HT_.out (by kernel_rfl)) (by decide) (fun K hK => ?_)
  refine goes_ Try.func15 (by kernel_rfl) rfl #[.agg (cfgV none 0 0 none 0 0 (some ⟨g, 0, none⟩) 2 2 (some ⟨g + 1, 0, none⟩) 1 1 0)] (by rfl) rfl rfl (by simp only [List.map_toArray, List.map_cons, List.map_nil]; rfl) ?_
  with_reducible refine (HRo.out _ (below_then HB6.out HB6.out.size HBd.out)).mono ?_
  rintro e x1 ⟨rfl, hb⟩
  refine ⟨_, rfl, ?_⟩
  replace HBd := Lib.hid (below_then HBd.out HBd.out.size hb)
  clear hb
  refine hK.out _ _ (cfg_ld ((HBd.out.block (g + 1 + 1) (blk_lt HC6.out)).trans HC6.out)) (fun hHeld => ?_)
  clear hK K
  refine norm_ (a' := ?_) ?_ ?_
  rotate_left
  · show Act.put _ (some 40) _ = _
    simp only [Act.put, List.setIfInBounds_toArray, List.set_cons_zero, List.set_cons_succ, i64_w, i32_w]
    rfl
  refine pure_ (i := 2) (N := some 41) (v := ?_) (a' := ?_) #[true, true, true, false, false, false, false, false, false, false, false, false, false, false, false, false, false, false, false, false, false, false, false, false, false, false, false, false, false, false, false, false, false, false, false, false, false, false, false, false, false, false, false, false, false, false, false, false, false, false, false, false, false, false, false] rfl rfl (any_of HT_.out (by kernel_rfl)) (fun _ _ _ h => h) (Or.inl ⟨by rfl, ?_⟩) ?_ ?_
  rotate_left
  · intro w'
    go_simp
    with_reducible rfl
  rotate_left
  · simp only [Act.put, List.setIfInBounds_toArray, List.set_cons_zero, List.set_cons_succ, i64_w, i32_w]
    rfl
  refine pure_ (i := 3) (N := some 42) (v := ?_) (a' := ?_) #[true, true, true, true, false, false, false, false, false, false, false, false, false, false, false, false, false, false, false, false, false, false, false, false, false, false, false, false, false, false, false, false, false, false, false, false, false, false, false, false, false, false, false, false, false, false, false, false, false, false, false, false, false, false, false] rfl rfl (any_of HT_.out (by kernel_rfl)) (fun _ _ _ h => h) (Or.inl ⟨by rfl, ?_⟩) ?_ ?_
  rotate_left
  · intro w'
    go_simp
    with_reducible rfl
  rotate_left
  · simp only [Act.put, List.setIfInBounds_toArray, List.set_cons_zero, List.set_cons_succ, i64_w, i32_w]
    rfl
  refine pure_ (i := 4) (N := some 43) (v := ?_) (a' := ?_) #[true, true, true, true, true, false, false, false, false, false, false, false, false, false, false, false, false, false, false, false, false, false, false, false, false, false, false, false, false, false, false, false, false, false, false, false, false, false, false, false, false, false, false, false, false, false, false, false, false, false, false, false, false, false, false] rfl rfl (any_of HT_.out (by kernel_rfl)) (fun _ _ _ h => h) (Or.inl ⟨by rfl, ?_⟩) ?_ ?_
  rotate_left
  · intro w'
    go_simp
    with_reducible rfl
  rotate_left
  · simp only [Act.put, List.setIfInBounds_toArray, List.set_cons_zero, List.set_cons_succ, i64_w, i32_w]
    rfl
  refine pure_ (i := 5) (N := some 44) (v := ?_) (a' := ?_) #[true, true, true, true, true, true, false, false, false, false, false, false, false, false, false, false, false, false, false, false, false, false, false, false, false, false, false, false, false, false, false, false, false, false, false, false, false, false, false, false, false, false, false, false, false, false, false, false, false, false, false, false, false, false, false] rfl rfl (any_of HT_.out (by kernel_rfl)) (fun _ _ _ h => h) (Or.inl ⟨by rfl, ?_⟩) ?_ ?_
  rotate_left
  · intro w'
    go_simp
    with_reducible rfl
  rotate_left
  · simp only [Act.put, List.setIfInBounds_toArray, List.set_cons_zero, List.set_cons_succ, i64_w, i32_w]
    rfl
  refine pure_ (i := 6) (N := some 45) (v := ?_) (a' := ?_) #[true, true, true, true, true, true, true, false, false, false, false, false, false, false, false, false, false, false, false, false, false, false, false, false, false, false, false, false, false, false, false, false, false, false, false, false, false, false, false, false, false, false, false, false, false, false, false, false, false, false, false, false, false, false, false] rfl rfl (any_of HT_.out (by kernel_rfl)) (fun _ _ _ h => h) (Or.inl ⟨by rfl, ?_⟩) ?_ ?_
  rotate_left
  · intro w'
    go_simp
    with_reducible rfl
  rotate_left
  · simp only [Act.put, List.setIfInBounds_toArray, List.set_cons_zero, List.set_cons_succ, i64_w, i32_w]
    rfl
  refine pure_ (i := 7) (N := some 46) (v := ?_) (a' := ?_) #[true, true, true, true, true, true, true, true, false, false, false, false, false, false, false, false, false, false, false, false, false, false, false, false, false, false, false, false, false, false, false, false, false, false, false, false, false, false, false, false, false, false, false, false, false, false, false, false, false, false, false, false, false, false, false] rfl rfl (any_of HT_.out (by kernel_rfl)) (fun _ _ _ h => h) (Or.inl ⟨by rfl, ?_⟩) ?_ ?_
  rotate_left
  · intro w'
    go_simp
    with_reducible rfl
  rotate_left
  · simp only [Act.put, List.setIfInBounds_toArray, List.set_cons_zero, List.set_cons_succ, i64_w, i32_w]
    rfl
  refine pure_ (i := 8) (N := some 47) (v := ?_) (a' := ?_) #[true, true, true, true, true, true, true, true, true, false, false, false, false, false, false, false, false, false, false, false, false, false, false, false, false, false, false, false, false, false, false, false, false, false, false, false, false, false, false, false, false, false, false, false, false, false, false, false, false, false, false, false, false, false, false] rfl rfl (any_of HT_.out (by kernel_rfl)) (fun _ _ _ h => h) (Or.inl ⟨by rfl, ?_⟩) ?_ ?_
  rotate_left
  · intro w'
    go_simp
    with_reducible rfl
  rotate_left
  · simp only [Act.put, List.setIfInBounds_toArray, List.set_cons_zero, List.set_cons_succ, i64_w, i32_w]
    rfl
  refine pure_ (i := 9) (N := some 48) (v := ?_) (a' := ?_) #[true, true, true, true, true, true, true, true, true, true, false, false, false, false, false, false, false, false, false, false, false, false, false, false, false, false, false, false, false, false, false, false, false, false, false, false, false, false, false, false, false, false, false, false, false, false, false, false, false, false, false, false, false, false, false] rfl rfl (any_of HT_.out (by kernel_rfl)) (fun _ _ _ h => h) (Or.inl ⟨by rfl, ?_⟩) ?_ ?_
  rotate_left
  · intro w'
    go_simp
    with_reducible rfl
  rotate_left
  · simp only [Act.put, List.setIfInBounds_toArray, List.set_cons_zero, List.set_cons_succ, i64_w, i32_w]
    rfl
  refine pure_ (i := 10) (N := some 49) (v := ?_) (a' := ?_) #[true, true, true, true, true, true, true, true, true, true, true, false, false, false, false, false, false, false, false, false, false, false, false, false, false, false, false, false, false, false, false, false, false, false, false, false, false, false, false, false, false, false, false, false, false, false, false, false, false, false, false, false, false, false, false] rfl rfl (any_of HT_.out (by kernel_rfl)) (fun _ _ _ h => h) (Or.inl ⟨by rfl, ?_⟩) ?_ ?_
  rotate_left
  · intro w'
    go_simp
    with_reducible rfl
  rotate_left
  · simp only [Act.put, List.setIfInBounds_toArray, List.set_cons_zero, List.set_cons_succ, i64_w, i32_w]
    rfl
  refine pure_ (i := 11) (N := some 50) (v := ?_) (a' := ?_) #[true, true, true, true, true, true, true, true, true, true, true, true, false, false, false, false, false, false, false, false, false, false, false, false, false, false, false, false, false, false, false, false, false, false, false, false, false, false, false, false, false, false, false, false, false, false, false, false, false, false, false, false, false, false, false] rfl rfl (any_of HT_.out (by kernel_rfl)) (fun _ _ _ h => h) (Or.inl ⟨by rfl, ?_⟩) ?_ ?_
  rotate_left
  · intro w'
    go_simp
    with_reducible rfl
  rotate_left
  · simp only [Act.put, List.setIfInBounds_toArray, List.set_cons_zero, List.set_cons_succ, i64_w, i32_w]
    rfl
  refine pure_ (i := 12) (N := some 51) (v := ?_) (a' := ?_) #[true, true, true, true, true, true, true, true, true, true, true, true, true, false, false, false, false, false, false, false, false, false, false, false, false, false, false, false, false, false, false, false, false, false, false, false, false, false, false, false, false, false, false, false, false, false, false, false, false, false, false, false, false, false, false] rfl rfl (any_of HT_.out (by kernel_rfl)) (fun _ _ _ h => h) (Or.inl ⟨by rfl, ?_⟩) ?_ ?_
  rotate_left
  · intro w'
    go_simp
    with_reducible rfl
  rotate_left
  · simp only [Act.put, List.setIfInBounds_toArray, List.set_cons_zero, List.set_cons_succ, i64_w, i32_w]
    rfl
  refine pure_ (i := 13) (N := some 52) (v := ?_) (a' := ?_) #[true, true, true, true, true, true, true, true, true, true, true, true, true, true, false, false, false, false, false, false, false, false, false, false, false, false, false, false, false, false, false, false, false, false, false, false, false, false, false, false, false, false, false, false, false, false, false, false, false, false, false, false, false, false, false] rfl rfl (any_of HT_.out (by kernel_rfl)) (fun _ _ _ h => h) (Or.inl ⟨by rfl, ?_⟩) ?_ ?_
  rotate_left
  · intro w'
    go_simp
    with_reducible rfl
  rotate_left
  · simp only [Act.put, List.setIfInBounds_toArray, List.set_cons_zero, List.set_cons_succ, i64_w, i32_w]
    rfl
  refine pure_ (i := 14) (N := some 53) (v := ?_) (a' := ?_) #[true, true, true, true, true, true, true, true, true, true, true, true, true, true, true, false, false, false, false, false, false, false, false, false, false, false, false, false, false, false, false, false, false, false, false, false, false, false, false, false, false, false, false, false, false, false, false, false, false, false, false, false, false, false, false] rfl rfl (any_of HT_.out (by kernel_rfl)) (fun _ _ _ h => h) (Or.inl ⟨by rfl, ?_⟩) ?_ ?_
  rotate_left
  · intro w'
    go_simp
    with_reducible rfl
  rotate_left
  · simp only [Act.put, List.setIfInBounds_toArray, List.set_cons_zero, List.set_cons_succ, i64_w, i32_w]
    rfl
  refine pure_ (i := 15) (N := some 54) (v := ?_) (a' := ?_) #[true, true, true, true, true, true, true, true, true, true, true, true, true, true, true, true, false, false, false, false, false, false, false, false, false, false, false, false, false, false, false, false, false, false, false, false, false, false, false, false, false, false, false, false, false, false, false, false, false, false, false, false, false, false, false] rfl rfl (any_of HT_.out (by kernel_rfl)) (fun _ _ _ h => h) (Or.inl ⟨by rfl, ?_⟩) ?_ ?_
  rotate_left
  · intro w'
    go_simp
    with_reducible rfl
  rotate_left
  · simp only [Act.put, List.setIfInBounds_toArray, List.set_cons_zero, List.set_cons_succ, i64_w, i32_w]
    rfl
  refine pure_ (i := 16) (N := some 55) (v := ?_) (a' := ?_) #[true, true, true, true, true, true, true, true, true, true, true, true, true, true, true, true, true, false, false, false, false, false, false, false, false, false, false, false, false, false, false, false, false, false, false, false, false, false, false, false, false, false, false, false, false, false, false, false, false, false, false, false, false, false, false] rfl rfl (any_of HT_.out (by kernel_rfl)) (fun _ _ _ h => h) (Or.inl ⟨by rfl, ?_⟩) ?_ ?_
  rotate_left
  · intro w'
    go_simp
    with_reducible rfl
  rotate_left
  · simp only [Act.put, List.setIfInBounds_toArray, List.set_cons_zero, List.set_cons_succ, i64_w, i32_w]
    rfl
  refine pure_ (i := 17) (N := some 56) (v := ?_) (a' := ?_) #[true, true, true, true, true, true, true, true, true, true, true, true, true, true, true, true, true, true, false, false, false, false, false, false, false, false, false, false, false, false, false, false, false, false, false, false, false, false, false, false, false, false, false, false, false, false, false, false, false, false, false, false, false, false, false] rfl rfl (any_of HT_.out (by kernel_rfl)) (fun _ _ _ h => h) (Or.inl ⟨by rfl, ?_⟩) ?_ ?_
  rotate_left
  · intro w'
    go_simp
    with_reducible rfl
  rotate_left
  · simp only [Act.put, List.setIfInBounds_toArray, List.set_cons_zero, List.set_cons_succ, i64_w, i32_w]
    rfl
  refine pure_ (i := 18) (N := some 57) (v := ?_) (a' := ?_) #[true, true, true, true, true, true, true, true, true, true, true, true, true, true, true, true, true, true, true, false, false, false, false, false, false, false, false, false, false, false, false, false, false, false, false, false, false, false, false, false, false, false, false, false, false, false, false, false, false, false, false, false, false, false, false] rfl rfl (any_of HT_.out (by kernel_rfl)) (fun _ _ _ h => h) (Or.inl ⟨by rfl, ?_⟩) ?_ ?_
  rotate_left
  · intro w'
    go_simp
    with_reducible rfl
  rotate_left
  · simp only [Act.put, List.setIfInBounds_toArray, List.set_cons_zero, List.set_cons_succ, i64_w, i32_w]
    rfl
  refine pure_ (i := 19) (N := some 58) (v := ?_) (a' := ?_) #[true, true, true, true, true, true, true, true, true, true, true, true, true, true, true, true, true, true, true, true, false, false, false, false, false, false, false, false, false, false, false, false, false, false, false, false, false, false, false, false, false, false, false, false, false, false, false, false, false, false, false, false, false, false, false] rfl rfl (any_of HT_.out (by kernel_rfl)) (fun _ _ _ h => h) (Or.inl ⟨by rfl, ?_⟩) ?_ ?_
  rotate_left
  · intro w'
    go_simp
    with_reducible rfl
  rotate_left
  · simp only [Act.put, List.setIfInBounds_toArray, List.set_cons_zero, List.set_cons_succ, i64_w, i32_w]
    rfl
  refine pure_ (i := 20) (N := some 59) (v := ?_) (a' := ?_) #[true, true, true, true, true, true, true, true, true, true, true, true, true, true, true, true, true, true, true, true, true, false, false, false, false, false, false, false, false, false, false, false, false, false, false, false, false, false, false, false, false, false, false, false, false, false, false, false, false, false, false, false, false, false, false] rfl rfl (any_of HT_.out (by kernel_rfl)) (fun _ _ _ h => h) (Or.inl ⟨by rfl, ?_⟩) ?_ ?_
  rotate_left
  · intro w'
    go_simp
    with_reducible rfl
  rotate_left
  · simp only [Act.put, List.setIfInBounds_toArray, List.set_cons_zero, List.set_cons_succ, i64_w, i32_w]
    rfl
  refine pure_ (i := 21) (N := some 60) (v := ?_) (a' := ?_) #[true, true, true, true, true, true, true, true, true, true, true, true, true, true, true, true, true, true, true, true, true, true, false, false, false, false, false, false, false, false, false, false, false, false, false, false, false, false, false, false, false, false, false, false, false, false, false, false, false, false, false, false, false, false, false] rfl rfl (any_of HT_.out (by kernel_rfl)) (fun _ _ _ h => h) (Or.inl ⟨by rfl, ?_⟩) ?_ ?_
  rotate_left
  · intro w'
    go_simp
    with_reducible rfl
  rotate_left
  · simp only [Act.put, List.setIfInBounds_toArray, List.set_cons_zero, List.set_cons_succ, i64_w, i32_w]
    rfl
  refine pure_ (i := 22) (N := some 61) (v := ?_) (a' := ?_) #[true, true, true, true, true, true, true, true, true, true, true, true, true, true, true, true, true, true, true, true, true, true, true, false, false, false, false, false, false, false, false, false, false, false, false, false, false, false, false, false, false, false, false, false, false, false, false, false, false, false, false, false, false, false, false] rfl rfl (any_of HT_.out (by kernel_rfl)) (fun _ _ _ h => h) (Or.inl ⟨by rfl, ?_⟩) ?_ ?_
  rotate_left
  · intro w'
    go_simp
    with_reducible rfl
  rotate_left
  · simp only [Act.put, List.setIfInBounds_toArray, List.set_cons_zero, List.set_cons_succ, i64_w, i32_w]
    rfl
  refine pure_ (i := 24) (N := some 63) (v := ?_) (a' := ?_) #[true, true, true, true, true, true, true, true, true, true, true, true, true, true, true, true, true, true, true, true, true, true, true, false, true, false, false, false, false, false, false, false, false, false, false, false, false, false, false, false, false, false, false, false, false, false, false, false, false, false, false, false, false, false, false] rfl rfl (any_of HT_.out (by kernel_rfl)) (fun _ _ _ h => h) (Or.inl ⟨by rfl, ?_⟩) ?_ ?_
  rotate_left
  · intro w'
    go_simp
    with_reducible rfl
  rotate_left
  · simp only [Act.put, List.setIfInBounds_toArray, List.set_cons_zero, List.set_cons_succ, i64_w, i32_w]
    rfl
  refine pure_ (i := 25) (N := some 64) (v := ?_) (a' := ?_) #[true, true, true, true, true, true, true, true, true, true, true, true, true, true, true, true, true, true, true, true, true, true, true, false, true, true, false, false, false, false, false, false, false, false, false, false, false, false, false, false, false, false, false, false, false, false, false, false, false, false, false, false, false, false, false] rfl rfl (any_of HT_.out (by kernel_rfl)) (fun _ _ _ h => h) (Or.inl ⟨by rfl, ?_⟩) ?_ ?_
  rotate_left
  · intro w'
    go_simp
    with_reducible rfl
  rotate_left
  · simp only [Act.put, List.setIfInBounds_toArray, List.set_cons_zero, List.set_cons_succ, i64_w, i32_w]
    rfl
  refine take_ (i := 23) (N := some 62) (v := ?_) (a' := ?_) #[true, true, true, true, true, true, true, true, true, true, true, true, true, true, true, true, true, true, true, true, true, true, true, true, true, true, false, false, false, false, false, false, false, false, false, false, false, false, false, false, false, false, false, false, false, false, false, false, false, false, false, false, false, false, false] rfl rfl (take_ofW HT_.out HW_.out (by kernel_rfl)) (fun _ _ _ h => h) (Or.inl ⟨by rfl, ?_⟩) hHeld ?_ ?_
  rotate_left
  · intro w' s0
    refine Eq.trans (exec_loadC (by rfl) (by rfl) s0) ?_
    with_reducible rfl
  rotate_left
  · simp only [Act.put, List.setIfInBounds_toArray, List.set_cons_zero, List.set_cons_succ, i64_w, i32_w]
    rfl
  refine one_ (i := 26) (N := some 65) #[true, true, true, true, true, true, true, true, true, true, true, true, true, true, true, true, true, true, true, true, true, true, true, true, true, true, true, false, false, false, false, false, false, false, false, false, false, false, false, false, false, false, false, false, false, false, false, false, false, false, false, false, false, false, false] rfl rfl (one_of HT_.out (by kernel_rfl)) (by decide) (fun K hK => ?_)
  refine goesV_ (.tmp 64) Try.func22 (by kernel_rfl) rfl #[.string sPhys, .int .i64 2] (by rfl) rfl rfl rfl (by simp only [List.map_toArray, List.map_cons, List.map_nil]; rfl) ?_
  with_reducible refine (ask_calls sPhys 2 _).mono ?_
  rintro e x2 ⟨rfl, hb⟩
  refine ⟨_, rfl, ?_⟩
  replace HBd := Lib.hid (below_then HBd.out HBd.out.size hb)
  clear hb
  refine hK.out _ _ (cfg_ld ((HBd.out.block (g + 1 + 1) (blk_lt HC6.out)).trans HC6.out)) (fun hHeld => ?_)
  clear hK K
  refine norm_ (a' := ?_) ?_ ?_
  rotate_left
  · show Act.put _ (some 65) _ = _
    simp only [Act.put, List.setIfInBounds_toArray, List.set_cons_zero, List.set_cons_succ, i64_w, i32_w]
    rfl
  refine one_ (i := 27) (N := some 66) #[true, true, true, true, true, true, true, true, true, true, true, true, true, true, true, true, true, true, true, true, true, true, true, true, true, true, true, true, false, false, false, false, false, false, false, false, false, false, false, false, false, false, false, false, false, false, false, false, false, false, false, false, false, false, false] rfl rfl (one_of HT_.out (by kernel_rfl)) (by decide) (fun K hK => ?_)
  refine goes_ Try.func17 (by kernel_rfl) rfl #[.agg (cfgV none 0 0 none 0 0 (some ⟨g, 0, none⟩) 2 2 (some ⟨g + 1, 0, none⟩) 1 1 0), .slice (some ⟨gj, 0, none⟩) 1 1, .agg (specC (askS sPhys 2) none 0)] (by rfl) rfl rfl (by simp only [List.map_toArray, List.map_cons, List.map_nil]; rfl) ?_
  with_reducible refine (HMo.out _ (below_then HB6.out HB6.out.size HBd.out) sPhys 2 0 may_E1 (by decide)).mono ?_
  rintro e x3 ⟨rfl, hb⟩
  refine ⟨_, rfl, ?_⟩
  replace HBd := Lib.hid (below_then HBd.out HBd.out.size hb)
  clear hb
  refine hK.out _ _ (cfg_ld ((HBd.out.block (g + 1 + 1) (blk_lt HC6.out)).trans HC6.out)) (fun hHeld => ?_)
  clear hK K
  refine norm_ (a' := ?_) ?_ ?_
  rotate_left
  · show Act.put _ (some 66) _ = _
    simp only [Act.put, List.setIfInBounds_toArray, List.set_cons_zero, List.set_cons_succ, i64_w, i32_w]
    rfl
  refine pure_ (i := 28) (N := some 67) (v := ?_) (a' := ?_) #[true, true, true, true, true, true, true, true, true, true, true, true, true, true, true, true, true, true, true, true, true, true, true, true, true, true, true, true, true, false, false, false, false, false, false, false, false, false, false, false, false, false, false, false, false, false, false, false, false, false, false, false, false, false, false] rfl rfl (any_of HT_.out (by kernel_rfl)) (fun _ _ _ h => h) (Or.inl ⟨by rfl, ?_⟩) ?_ ?_
  rotate_left
  · intro w'
    go_simp
    with_reducible rfl
  rotate_left
  · simp only [Act.put, List.setIfInBounds_toArray, List.set_cons_zero, List.set_cons_succ, i64_w, i32_w]
    rfl
  refine pure_ (i := 29) (N := some 68) (v := ?_) (a' := ?_) #[true, true, true, true, true, true, true, true, true, true, true, true, true, true, true, true, true, true, true, true, true, true, true, true, true, true, true, true, true, true, false, false, false, false, false, false, false, false, false, false, false, false, false, false, false, false, false, false, false, false, false, false, false, false, false] rfl rfl (any_of HT_.out (by kernel_rfl)) (fun _ _ _ h => h) (Or.inl ⟨by rfl, ?_⟩) ?_ ?_
  rotate_left
  · intro w'
    go_simp
    with_reducible rfl
  rotate_left
  · simp only [Act.put, List.setIfInBounds_toArray, List.set_cons_zero, List.set_cons_succ, i64_w, i32_w]
    rfl
  refine pure_ (i := 30) (N := some 69) (v := ?_) (a' := ?_) #[true, true, true, true, true, true, true, true, true, true, true, true, true, true, true, true, true, true, true, true, true, true, true, true, true, true, true, true, true, true, true, false, false, false, false, false, false, false, false, false, false, false, false, false, false, false, false, false, false, false, false, false, false, false, false] rfl rfl (any_of HT_.out (by kernel_rfl)) (fun _ _ _ h => h) (Or.inl ⟨by rfl, ?_⟩) ?_ ?_
  rotate_left
  · intro w'
    go_simp
    with_reducible rfl
  rotate_left
  · simp only [Act.put, List.setIfInBounds_toArray, List.set_cons_zero, List.set_cons_succ, i64_w, i32_w]
    rfl
  refine pure_ (i := 32) (N := some 71) (v := ?_) (a' := ?_) #[true, true, true, true, true, true, true, true, true, true, true, true, true, true, true, true, true, true, true, true, true, true, true, true, true, true, true, true, true, true, true, false, true, false, false, false, false, false, false, false, false, false, false, false, false, false, false, false, false, false, false, false, false, false, false] rfl rfl (any_of HT_.out (by kernel_rfl)) (fun _ _ _ h => h) (Or.inl ⟨by rfl, ?_⟩) ?_ ?_
  rotate_left
  · intro w'
    go_simp
    with_reducible rfl
  rotate_left
  · simp only [Act.put, List.setIfInBounds_toArray, List.set_cons_zero, List.set_cons_succ, i64_w, i32_w]
    rfl
  refine pure_ (i := 33) (N := some 72) (v := ?_) (a' := ?_) #[true, true, true, true, true, true, true, true, true, true, true, true, true, true, true, true, true, true, true, true, true, true, true, true, true, true, true, true, true, true, true, false, true, true, false, false, false, false, false, false, false, false, false, false, false, false, false, false, false, false, false, false, false, false, false] rfl rfl (any_of HT_.out (by kernel_rfl)) (fun _ _ _ h => h) (Or.inl ⟨by rfl, ?_⟩) ?_ ?_
  rotate_left
  · intro w'
    go_simp
    with_reducible rfl
  rotate_left
  · simp only [Act.put, List.setIfInBounds_toArray, List.set_cons_zero, List.set_cons_succ, i64_w, i32_w]
    rfl
  refine take_ (i := 31) (N := some 70) (v := ?_) (a' := ?_) #[true, true, true, true, true, true, true, true, true, true, true, true, true, true, true, true, true, true, true, true, true, true, true, true, true, true, true, true, true, true, true, true, true, true, false, false, false, false, false, false, false, false, false, false, false, false, false, false, false, false, false, false, false, false, false] rfl rfl (take_ofW HT_.out HW_.out (by kernel_rfl)) (fun _ _ _ h => h) (Or.inl ⟨by rfl, ?_⟩) hHeld ?_ ?_
  rotate_left
  · intro w' s0
    refine Eq.trans (exec_loadC (by rfl) (by rfl) s0) ?_
    with_reducible rfl
  rotate_left
  · simp only [Act.put, List.setIfInBounds_toArray, List.set_cons_zero, List.set_cons_succ, i64_w, i32_w]
    rfl
  refine one_ (i := 34) (N := some 73) #[true, true, true, true, true, true, true, true, true, true, true, true, true, true, true, true, true, true, true, true, true, true, true, true, true, true, true, true, true, true, true, true, true, true, true, false, false, false, false, false, false, false, false, false, false, false, false, false, false, false, false, false, false, false, false] rfl rfl (one_of HT_.out (by kernel_rfl)) (by decide) (fun K hK => ?_)
  refine goesV_ (.tmp 72) Try.func22 (by kernel_rfl) rfl #[.string sPhys, .int .i64 3] (by rfl) rfl rfl rfl (by simp only [List.map_toArray, List.map_cons, List.map_nil]; rfl) ?_
  with_reducible refine (ask_calls sPhys 3 _).mono ?_
  rintro e x4 ⟨rfl, hb⟩
  refine ⟨_, rfl, ?_⟩
  replace HBd := Lib.hid (below_then HBd.out HBd.out.size hb)
  clear hb
  refine hK.out _ _ (cfg_ld ((HBd.out.block (g + 1 + 1) (blk_lt HC6.out)).trans HC6.out)) (fun hHeld => ?_)
  clear hK K
  refine norm_ (a' := ?_) ?_ ?_
  rotate_left
  · show Act.put _ (some 73) _ = _
    simp only [Act.put, List.setIfInBounds_toArray, List.set_cons_zero, List.set_cons_succ, i64_w, i32_w]
    rfl
  refine one_ (i := 35) (N := some 74) #[true, true, true, true, true, true, true, true, true, true, true, true, true, true, true, true, true, true, true, true, true, true, true, true, true, true, true, true, true, true, true, true, true, true, true, true, false, false, false, false, false, false, false, false, false, false, false, false, false, false, false, false, false, false, false] rfl rfl (one_of HT_.out (by kernel_rfl)) (by decide) (fun K hK => ?_)
  refine goes_ Try.func17 (by kernel_rfl) rfl #[.agg (cfgV none 0 0 none 0 0 (some ⟨g, 0, none⟩) 2 2 (some ⟨g + 1, 0, none⟩) 1 1 0), .slice (some ⟨gj, 0, none⟩) 1 1, .agg (specC (askS sPhys 3) none 0)] (by rfl) rfl rfl (by simp only [List.map_toArray, List.map_cons, List.map_nil]; rfl) ?_
  with_reducible refine (HMo.out _ (below_then HB6.out HB6.out.size HBd.out) sPhys 3 150 may_E2 (by decide)).mono ?_
  rintro e x5 ⟨rfl, hb⟩
  refine ⟨_, rfl, ?_⟩
  replace HBd := Lib.hid (below_then HBd.out HBd.out.size hb)
  clear hb
  refine hK.out _ _ (cfg_ld ((HBd.out.block (g + 1 + 1) (blk_lt HC6.out)).trans HC6.out)) (fun hHeld => ?_)
  clear hK K
  refine norm_ (a' := ?_) ?_ ?_
  rotate_left
  · show Act.put _ (some 74) _ = _
    simp only [Act.put, List.setIfInBounds_toArray, List.set_cons_zero, List.set_cons_succ, i64_w, i32_w]
    rfl
  refine pure_ (i := 36) (N := some 75) (v := ?_) (a' := ?_) #[true, true, true, true, true, true, true, true, true, true, true, true, true, true, true, true, true, true, true, true, true, true, true, true, true, true, true, true, true, true, true, true, true, true, true, true, true, false, false, false, false, false, false, false, false, false, false, false, false, false, false, false, false, false, false] rfl rfl (any_of HT_.out (by kernel_rfl)) (fun _ _ _ h => h) (Or.inl ⟨by rfl, ?_⟩) ?_ ?_
  rotate_left
  · intro w'
    go_simp
    with_reducible rfl
  rotate_left
  · simp only [Act.put, List.setIfInBounds_toArray, List.set_cons_zero, List.set_cons_succ, i64_w, i32_w]
    rfl
  refine pure_ (i := 37) (N := some 76) (v := ?_) (a' := ?_) #[true, true, true, true, true, true, true, true, true, true, true, true, true, true, true, true, true, true, true, true, true, true, true, true, true, true, true, true, true, true, true, true, true, true, true, true, true, true, false, false, false, false, false, false, false, false, false, false, false, false, false, false, false, false, false] rfl rfl (any_of HT_.out (by kernel_rfl)) (fun _ _ _ h => h) (Or.inl ⟨by rfl, ?_⟩) ?_ ?_
  rotate_left
  · intro w'
    go_simp
    with_reducible rfl
  rotate_left
  · simp only [Act.put, List.setIfInBounds_toArray, List.set_cons_zero, List.set_cons_succ, i64_w, i32_w]
    rfl
  refine pure_ (i := 38) (N := some 77) (v := ?_) (a' := ?_) #[true, true, true, true, true, true, true, true, true, true, true, true, true, true, true, true, true, true, true, true, true, true, true, true, true, true, true, true, true, true, true, true, true, true, true, true, true, true, true, false, false, false, false, false, false, false, false, false, false, false, false, false, false, false, false] rfl rfl (any_of HT_.out (by kernel_rfl)) (fun _ _ _ h => h) (Or.inl ⟨by rfl, ?_⟩) ?_ ?_
  rotate_left
  · intro w'
    go_simp
    with_reducible rfl
  rotate_left
  · simp only [Act.put, List.setIfInBounds_toArray, List.set_cons_zero, List.set_cons_succ, i64_w, i32_w]
    rfl
  refine pure_ (i := 40) (N := some 79) (v := ?_) (a' := ?_) #[true, true, true, true, true, true, true, true, true, true, true, true, true, true, true, true, true, true, true, true, true, true, true, true, true, true, true, true, true, true, true, true, true, true, true, true, true, true, true, false, true, false, false, false, false, false, false, false, false, false, false, false, false, false, false] rfl rfl (any_of HT_.out (by kernel_rfl)) (fun _ _ _ h => h) (Or.inl ⟨by rfl, ?_⟩) ?_ ?_
  rotate_left
  · intro w'
    go_simp
    with_reducible rfl
  rotate_left
  · simp only [Act.put, List.setIfInBounds_toArray, List.set_cons_zero, List.set_cons_succ, i64_w, i32_w]
    rfl
  refine pure_ (i := 41) (N := some 80) (v := ?_) (a' := ?_) #[true, true, true, true, true, true, true, true, true, true, true, true, true, true, true, true, true, true, true, true, true, true, true, true, true, true, true, true, true, true, true, true, true, true, true, true, true, true, true, false, true, true, false, false, false, false, false, false, false, false, false, false, false, false, false] rfl rfl (any_of HT_.out (by kernel_rfl)) (fun _ _ _ h => h) (Or.inl ⟨by rfl, ?_⟩) ?_ ?_
  rotate_left
  · intro w'
    go_simp
    with_reducible rfl
  rotate_left
  · simp only [Act.put, List.setIfInBounds_toArray, List.set_cons_zero, List.set_cons_succ, i64_w, i32_w]
    rfl
  refine take_ (i := 39) (N := some 78) (v := ?_) (a' := ?_) #[true, true, true, true, true, true, true, true, true, true, true, true, true, true, true, true, true, true, true, true, true, true, true, true, true, true, true, true, true, true, true, true, true, true, true, true, true, true, true, true, true, true, false, false, false, false, false, false, false, false, false, false, false, false, false] rfl rfl (take_ofW HT_.out HW_.out (by kernel_rfl)) (fun _ _ _ h => h) (Or.inl ⟨by rfl, ?_⟩) hHeld ?_ ?_
  rotate_left
  · intro w' s0
    refine Eq.trans (exec_loadC (by rfl) (by rfl) s0) ?_
    with_reducible rfl
  rotate_left
  · simp only [Act.put, List.setIfInBounds_toArray, List.set_cons_zero, List.set_cons_succ, i64_w, i32_w]
    rfl
  refine one_ (i := 42) (N := some 81) #[true, true, true, true, true, true, true, true, true, true, true, true, true, true, true, true, true, true, true, true, true, true, true, true, true, true, true, true, true, true, true, true, true, true, true, true, true, true, true, true, true, true, true, false, false, false, false, false, false, false, false, false, false, false, false] rfl rfl (one_of HT_.out (by kernel_rfl)) (by decide) (fun K hK => ?_)
  refine goesV_ (.tmp 80) Try.func22 (by kernel_rfl) rfl #[.string sAll, .int .i64 4] (by rfl) rfl rfl rfl (by simp only [List.map_toArray, List.map_cons, List.map_nil]; rfl) ?_
  with_reducible refine (ask_calls sAll 4 _).mono ?_
  rintro e x6 ⟨rfl, hb⟩
  refine ⟨_, rfl, ?_⟩
  replace HBd := Lib.hid (below_then HBd.out HBd.out.size hb)
  clear hb
  refine hK.out _ _ (cfg_ld ((HBd.out.block (g + 1 + 1) (blk_lt HC6.out)).trans HC6.out)) (fun hHeld => ?_)
  clear hK K
  refine norm_ (a' := ?_) ?_ ?_
  rotate_left
  · show Act.put _ (some 81) _ = _
    simp only [Act.put, List.setIfInBounds_toArray, List.set_cons_zero, List.set_cons_succ, i64_w, i32_w]
    rfl
  refine one_ (i := 43) (N := some 82) #[true, true, true, true, true, true, true, true, true, true, true, true, true, true, true, true, true, true, true, true, true, true, true, true, true, true, true, true, true, true, true, true, true, true, true, true, true, true, true, true, true, true, true, true, false, false, false, false, false, false, false, false, false, false, false] rfl rfl (one_of HT_.out (by kernel_rfl)) (by decide) (fun K hK => ?_)
  refine goes_ Try.func17 (by kernel_rfl) rfl #[.agg (cfgV none 0 0 none 0 0 (some ⟨g, 0, none⟩) 2 2 (some ⟨g + 1, 0, none⟩) 1 1 0), .slice (some ⟨gj, 0, none⟩) 1 1, .agg (specC (askS sAll 4) none 0)] (by rfl) rfl rfl (by simp only [List.map_toArray, List.map_cons, List.map_nil]; rfl) ?_
  with_reducible refine (HMo.out _ (below_then HB6.out HB6.out.size HBd.out) sAll 4 0 may_E3 (by decide)).mono ?_
  rintro e x7 ⟨rfl, hb⟩
  refine ⟨_, rfl, ?_⟩
  replace HBd := Lib.hid (below_then HBd.out HBd.out.size hb)
  clear hb
  refine hK.out _ _ (cfg_ld ((HBd.out.block (g + 1 + 1) (blk_lt HC6.out)).trans HC6.out)) (fun hHeld => ?_)
  clear hK K
  refine norm_ (a' := ?_) ?_ ?_
  rotate_left
  · show Act.put _ (some 82) _ = _
    simp only [Act.put, List.setIfInBounds_toArray, List.set_cons_zero, List.set_cons_succ, i64_w, i32_w]
    rfl
  refine pure_ (i := 44) (N := some 83) (v := ?_) (a' := ?_) #[true, true, true, true, true, true, true, true, true, true, true, true, true, true, true, true, true, true, true, true, true, true, true, true, true, true, true, true, true, true, true, true, true, true, true, true, true, true, true, true, true, true, true, true, true, false, false, false, false, false, false, false, false, false, false] rfl rfl (any_of HT_.out (by kernel_rfl)) (fun _ _ _ h => h) (Or.inl ⟨by rfl, ?_⟩) ?_ ?_
  rotate_left
  · intro w'
    go_simp
    with_reducible rfl
  rotate_left
  · simp only [Act.put, List.setIfInBounds_toArray, List.set_cons_zero, List.set_cons_succ, i64_w, i32_w]
    rfl
  refine pure_ (i := 45) (N := some 84) (v := ?_) (a' := ?_) #[true, true, true, true, true, true, true, true, true, true, true, true, true, true, true, true, true, true, true, true, true, true, true, true, true, true, true, true, true, true, true, true, true, true, true, true, true, true, true, true, true, true, true, true, true, true, false, false, false, false, false, false, false, false, false] rfl rfl (any_of HT_.out (by kernel_rfl)) (fun _ _ _ h => h) (Or.inl ⟨by rfl, ?_⟩) ?_ ?_
  rotate_left
  · intro w'
    go_simp
    with_reducible rfl
  rotate_left
  · simp only [Act.put, List.setIfInBounds_toArray, List.set_cons_zero, List.set_cons_succ, i64_w, i32_w]
    rfl
  refine pure_ (i := 46) (N := some 85) (v := ?_) (a' := ?_) #[true, true, true, true, true, true, true, true, true, true, true, true, true, true, true, true, true, true, true, true, true, true, true, true, true, true, true, true, true, true, true, true, true, true, true, true, true, true, true, true, true, true, true, true, true, true, true, false, false, false, false, false, false, false, false] rfl rfl (any_of HT_.out (by kernel_rfl)) (fun _ _ _ h => h) (Or.inl ⟨by rfl, ?_⟩) ?_ ?_
  rotate_left
  · intro w'
    go_simp
    with_reducible rfl
  rotate_left
  · simp only [Act.put, List.setIfInBounds_toArray, List.set_cons_zero, List.set_cons_succ, i64_w, i32_w]
    rfl
  refine pure_ (i := 48) (N := some 87) (v := ?_) (a' := ?_) #[true, true, true, true, true, true, true, true, true, true, true, true, true, true, true, true, true, true, true, true, true, true, true, true, true, true, true, true, true, true, true, true, true, true, true, true, true, true, true, true, true, true, true, true, true, true, true, false, true, false, false, false, false, false, false] rfl rfl (any_of HT_.out (by kernel_rfl)) (fun _ _ _ h => h) (Or.inl ⟨by rfl, ?_⟩) ?_ ?_
  rotate_left
  · intro w'
    go_simp
    with_reducible rfl
  rotate_left
  · simp only [Act.put, List.setIfInBounds_toArray, List.set_cons_zero, List.set_cons_succ, i64_w, i32_w]
    rfl
  refine pure_ (i := 49) (N := some 88) (v := ?_) (a' := ?_) #[true, true, true, true, true, true, true, true, true, true, true, true, true, true, true, true, true, true, true, true, true, true, true, true, true, true, true, true, true, true, true, true, true, true, true, true, true, true, true, true, true, true, true, true, true, true, true, false, true, true, false, false, false, false, false] rfl rfl (any_of HT_.out (by kernel_rfl)) (fun _ _ _ h => h) (Or.inl ⟨by rfl, ?_⟩) ?_ ?_
  rotate_left
  · intro w'
    go_simp
    with_reducible rfl
  rotate_left
  · simp only [Act.put, List.setIfInBounds_toArray, List.set_cons_zero, List.set_cons_succ, i64_w, i32_w]
    rfl
  refine take_ (i := 47) (N := some 86) (v := ?_) (a' := ?_) #[true, true, true, true, true, true, true, true, true, true, true, true, true, true, true, true, true, true, true, true, true, true, true, true, true, true, true, true, true, true, true, true, true, true, true, true, true, true, true, true, true, true, true, true, true, true, true, true, true, true, false, false, false, false, false] rfl rfl (take_ofW HT_.out HW_.out (by kernel_rfl)) (fun _ _ _ h => h) (Or.inl ⟨by rfl, ?_⟩) hHeld ?_ ?_
  rotate_left
  · intro w' s0
    refine Eq.trans (exec_loadC (by rfl) (by rfl) s0) ?_
    with_reducible rfl
  rotate_left
  · simp only [Act.put, List.setIfInBounds_toArray, List.set_cons_zero, List.set_cons_succ, i64_w, i32_w]
    rfl
  refine one_ (i := 50) (N := some 89) #[true, true, true, true, true, true, true, true, true, true, true, true, true, true, true, true, true, true, true, true, true, true, true, true, true, true, true, true, true, true, true, true, true, true, true, true, true, true, true, true, true, true, true, true, true, true, true, true, true, true, true, false, false, false, false] rfl rfl (one_of HT_.out (by kernel_rfl)) (by decide) (fun K hK => ?_)
  refine goesV_ (.tmp 88) Try.func22 (by kernel_rfl) rfl #[.string sAll, .int .i64 1] (by rfl) rfl rfl rfl (by simp only [List.map_toArray, List.map_cons, List.map_nil]; rfl) ?_
  with_reducible refine (ask_calls sAll 1 _).mono ?_
  rintro e x8 ⟨rfl, hb⟩
  refine ⟨_, rfl, ?_⟩
  replace HBd := Lib.hid (below_then HBd.out HBd.out.size hb)
  clear hb
  refine hK.out _ _ (cfg_ld ((HBd.out.block (g + 1 + 1) (blk_lt HC6.out)).trans HC6.out)) (fun hHeld => ?_)
  clear hK K
  refine norm_ (a' := ?_) ?_ ?_
  rotate_left
  · show Act.put _ (some 89) _ = _
    simp only [Act.put, List.setIfInBounds_toArray, List.set_cons_zero, List.set_cons_succ, i64_w, i32_w]
    rfl
  refine one_ (i := 51) (N := some 90) #[true, true, true, true, true, true, true, true, true, true, true, true, true, true, true, true, true, true, true, true, true, true, true, true, true, true, true, true, true, true, true, true, true, true, true, true, true, true, true, true, true, true, true, true, true, true, true, true, true, true, true, true, false, false, false] rfl rfl (one_of HT_.out (by kernel_rfl)) (by decide) (fun K hK => ?_)
  refine goes_ Try.func17 (by kernel_rfl) rfl #[.agg (cfgV none 0 0 none 0 0 (some ⟨g, 0, none⟩) 2 2 (some ⟨g + 1, 0, none⟩) 1 1 0), .slice A6 2 c6, .agg (specC (askS sAll 1) none 0)] (by rfl) rfl rfl (by simp only [List.map_toArray, List.map_cons, List.map_nil]; rfl) ?_
  with_reducible refine (HMt.out _ (below_then HB6.out HB6.out.size HBd.out) A6 c6 (Kd.C_below HR6.out.1 HBd.out) HR6.out.2).mono ?_
  rintro e x9 ⟨rfl, hb⟩
  refine ⟨_, rfl, ?_⟩
  replace HBd := Lib.hid (below_then HBd.out HBd.out.size hb)
  clear hb
  refine hK.out _ _ (cfg_ld ((HBd.out.block (g + 1 + 1) (blk_lt HC6.out)).trans HC6.out)) (fun hHeld => ?_)
  clear hK K
  refine norm_ (a' := ?_) ?_ ?_
  rotate_left
  · show Act.put _ (some 90) _ = _
    simp only [Act.put, List.setIfInBounds_toArray, List.set_cons_zero, List.set_cons_succ, i64_w, i32_w]
    rfl
  refine pure_ (i := 52) (N := some 91) (v := ?_) (a' := ?_) #[true, true, true, true, true, true, true, true, true, true, true, true, true, true, true, true, true, true, true, true, true, true, true, true, true, true, true, true, true, true, true, true, true, true, true, true, true, true, true, true, true, true, true, true, true, true, true, true, true, true, true, true, true, false, false] rfl rfl (any_of HT_.out (by kernel_rfl)) (fun _ _ _ h => h) (Or.inl ⟨by rfl, ?_⟩) ?_ ?_
  rotate_left
  · intro w'
    go_simp
    with_reducible rfl
  rotate_left
  · simp only [Act.put, List.setIfInBounds_toArray, List.set_cons_zero, List.set_cons_succ, i64_w, i32_w]
    rfl
  refine pure_ (i := 53) (N := some 92) (v := ?_) (a' := ?_) #[true, true, true, true, true, true, true, true, true, true, true, true, true, true, true, true, true, true, true, true, true, true, true, true, true, true, true, true, true, true, true, true, true, true, true, true, true, true, true, true, true, true, true, true, true, true, true, true, true, true, true, true, true, true, false] rfl rfl (any_of HT_.out (by kernel_rfl)) (fun _ _ _ h => h) (Or.inl ⟨by rfl, ?_⟩) ?_ ?_
  rotate_left
  · intro w'
    go_simp
    with_reducible rfl
  rotate_left
  · simp only [Act.put, List.setIfInBounds_toArray, List.set_cons_zero, List.set_cons_succ, i64_w, i32_w]
    rfl
  refine pure_ (i := 54) (N := some 0) (v := ?_) (a' := ?_) #[true, true, true, true, true, true, true, true, true, true, true, true, true, true, true, true, true, true, true, true, true, true, true, true, true, true, true, true, true, true, true, true, true, true, true, true, true, true, true, true, true, true, true, true, true, true, true, true, true, true, true, true, true, true, true] rfl rfl (any_of HT_.out (by kernel_rfl)) (fun _ _ _ h => h) (Or.inl ⟨by rfl, ?_⟩) ?_ ?_
  rotate_left
  · intro w'
    go_simp
    with_reducible rfl
  rotate_left
  · simp only [Act.put, List.setIfInBounds_toArray, List.set_cons_zero, List.set_cons_succ, i64_w, i32_w]
    rfl
  refine done_ (done_of HT_.out (by kernel_rfl)) ?_
  
  go_wp2
  go_ret
  have hbf := below_then HB1.out HB1.out.size (below_then HB6.out HB6.out.size HBd.out)
  exact ⟨rfl, hbf⟩
end Go.Proofs.Ytcnobkcddgcifaa.PT
