/- FrameBack, walked: frames that lead to what came in. -/
import Derived.Test.YtajlmjmhkhdmdaaFrCuts
import Derived.Test.YtajlmjmhkhdmdaaFrBackP
set_option linter.unusedVariables false
set_option linter.unusedSimpArgs false
namespace Go.Proofs.Ytajlmjmhkhdmdaa.PF
open Go.RowKit Go.Proofs.YtajlmjmhkhdmdaaW.PrintWords Go.Proofs.YtajlmjmhkhdmdaaW.PrintLast Go.Proofs.YtajlmjmhkhdmdaaW.PrintMore
attribute [local go_sem] max2_int min2_int max_two min_two
abbrev Sl := Option Addr × Nat × Nat
/-- A frame's cells, wherever they lead. -/
abbrev kRaw : Kd (Int × Sl) := Kd.pair (Kd.int .u8) (Kd.scalar (fun x : Sl => .slice x.1 x.2.1 x.2.2) (fun _ => rfl))
theorem at_raw {w : World} {A : Option Addr} {rs : List (Int × Sl)} (h : Kd.C kRaw w A rs.length rs) (j : Nat) (hj : j < rs.length) :
    ∃ ad, A = some ad ∧ w.cell? ⟨(ad.add (j * 2)).block, (ad.add (j * 2)).off + 1, none⟩ = some (.slice rs[j].2.1 rs[j].2.2.1 rs[j].2.2.2) := by
  obtain ⟨ad, e, hc⟩ := h.2.2 (by omega)
  obtain ⟨cs, hl, hK, hcell⟩ := hc j rs[j] (List.getElem?_eq_getElem hj)
  obtain ⟨c0, c1, rfl, h2, h3⟩ := hK
  obtain rfl : c0 = [.int .u8 rs[j].1] := h2
  obtain rfl : c1 = [.slice rs[j].2.1 rs[j].2.2.1 rs[j].2.2.2] := h3
  exact ⟨ad, e, by rw [← add_field _ _ 1 (by omega)]; exact hcell 1 _ rfl⟩
theorem C_take {α : Type} {d : Kd α} {w : World} {A : Option Addr} {xs : List α} (h : Kd.C d w A xs.length xs) (m : Nat) (hm : m ≤ xs.length) : Kd.C d w A (xs.take m).length (xs.take m) := by
  have e : (xs.take m).length = m := by rw [List.length_take]; omega
  refine ⟨rfl, by rw [e]; have := h.2.1; omega, fun hp => ?_⟩
  obtain ⟨ad, e1, hc⟩ := h.2.2 (by omega)
  refine ⟨ad, e1, fun j p hj => hc j p ?_⟩
  rw [List.getElem?_take] at hj
  split at hj
  · exact hj
  · cases hj
theorem cut_hs {P : Program} (t e : TypeId) {i : TypeInfo} (ht : P.underlying t = some (.slice e)) (hi : P.info? e = some i) (A : Option Addr) (n c m : Nat) (hm : m ≤ c) (W : World) :
    (Instr.slice t (.slice A n c) none (some (.int .i64 (m : Int))) none).run P W = .ok (.slice A m c) W := by
  have hel : P.elem t = e := by simp [Program.elem, ht]
  have hu : P.underlying t = some (.slice (P.elem t)) := by rw [hel]; exact ht
  have ha : (A.map fun x => x.add 0) = A := by cases A <;> simp [Addr.add]
  rw [run_slice_h W t A n c hu .i64 (m : Int) (by omega) (by omega), hel]
  simp [sizeOf, typeInfo, hi, sliced, Result.andThen, ha]
theorem set_R {W : World} {base : Nat} {ok : Nat → Prop} {g n cap : Nat} {xs : List Int} (h : Kd.R ku8 5 W base ok (.slice (some ⟨g, 0, none⟩) n cap) xs) (p : Nat) (hp : p < n) (y : Int) (hx : W.cell? ⟨g, p, none⟩ = some (.int .u8 (rd xs p))) :
    Kd.R ku8 5 (W.setCell ⟨g, p, none⟩ (.int .u8 y)) base ok (.slice (some ⟨g, 0, none⟩) n cap) (xs.set p y) ∧ W.grownBy (W.setCell ⟨g, p, none⟩ (.int .u8 y)) (some g) := by
  have h1 := Kd.R_seg h (p : Int) (by omega) (by omega) (c := [.int .u8 (rd xs p)]) (seg := [.int .u8 y]) (j := 0) (x' := y) (okp := fun _ => False) rfl (fun j u hu => by
    cases j with
    | zero =>
      simp only [List.getElem?_cons_zero, Option.some.injEq] at hu
      subst hu
      rw [Int.toNat_natCast, show p * ku8.sz + 0 = p from by show p * 1 + 0 = p; omega]
      exact hx
    | succ j => simp at hu) (Nat.le_refl _) rfl (fun _ hk => hk.elim)
  rw [Int.toNat_natCast, show p * ku8.sz + 0 = p from by show p * 1 + 0 = p; omega] at h1
  exact h1
structure RawOne (w : World) (r : Int × Sl) (f : Fr) : Prop where
  kind : r.1 = f.f0
  len : r.2.2.1 = f.f1.length
  cap : f.f1.length ≤ r.2.2.2
  rd_ : Kd.C ku8 w r.2.1 f.f1.length f.f1
def RawOk (w : World) (rs : List (Int × Sl)) (fs : List Fr) : Prop := rs.length = fs.length ∧ ∀ (j : Nat) (r : Int × Sl) (f : Fr), rs[j]? = some r → fs[j]? = some f → RawOne w r f
theorem RawOk.snoc {w : World} {rs : List (Int × Sl)} {fs : List Fr} {r : Int × Sl} {f : Fr} (h : RawOk w rs fs) (h1 : RawOne w r f) : RawOk w (rs ++ [r]) (fs ++ [f]) := by
  refine ⟨by rw [List.length_append, List.length_append, h.1]; rfl, fun j r' f' hr hf => ?_⟩
  rw [List.getElem?_append] at hr hf
  rw [h.1] at hr
  split at hr
  · rename_i hlt
    rw [if_pos hlt] at hf
    exact h.2 j r' f' hr hf
  · rename_i hlt
    rw [if_neg hlt] at hf
    generalize j - fs.length = q at hr hf
    cases q with
    | zero =>
      simp at hr hf
      subst hr; subst hf
      exact h1
    | succ q => simp at hr
theorem raw_C {w W : World} {A : Option Addr} {rs : List (Int × Sl)} {fs : List Fr} (h : Kd.C kRaw W A rs.length rs) (hok : RawOk w rs fs) (hb : Below w.heap.size w W) : Kd.C k27 W A fs.length fs := by
  refine ⟨rfl, by rw [← hok.1]; exact h.2.1, fun hp => ?_⟩
  obtain ⟨ad, e, hc⟩ := h.2.2 (by rw [hok.1]; exact hp)
  refine ⟨ad, e, fun j f hf => ?_⟩
  have hjl : j < rs.length := by rw [hok.1]; exact (List.getElem?_eq_some_iff.1 hf).1
  obtain ⟨cs, hl, hK, hcell⟩ := hc j rs[j] (List.getElem?_eq_getElem hjl)
  have h1 := hok.2 j rs[j] f (List.getElem?_eq_getElem hjl) hf
  obtain ⟨c0, c1, rfl, h2, h3⟩ := hK
  obtain rfl : c0 = [.int .u8 rs[j].1] := h2
  obtain rfl : c1 = [.slice rs[j].2.1 rs[j].2.2.1 rs[j].2.2.2] := h3
  refine ⟨_, rfl, ?_, hcell⟩
  rw [h1.kind, h1.len]
  exact k27_mk W f h1.cap (Kd.C_below h1.rd_ hb)
theorem raw_take {w : World} {rs : List (Int × Sl)} {fs : List Fr} (h : RawOk w rs fs) (n : Nat) : RawOk w (rs.take n) (fs.take n) := by
  refine ⟨by rw [List.length_take, List.length_take, h.1], fun j r f hr hf => ?_⟩
  rw [List.getElem?_take] at hr hf
  split at hr
  · rename_i hlt
    rw [if_pos hlt] at hf
    exact h.2 j r f hr hf
  · cases hr
def begs (fs : List Fr) : List Int := (List.range fs.length).map fun j => ((putAll_ (fs.take j)).length : Int)
theorem begs_snoc (fs : List Fr) (f : Fr) : begs (fs ++ [f]) = begs fs ++ [((putAll_ fs).length : Int)] := by
  unfold begs
  rw [List.length_append, List.length_singleton, List.range_succ, List.map_append, List.map_singleton, List.take_left]
  congr 1
  apply List.map_congr_left
  intro j hj
  rw [List.mem_range] at hj
  rw [List.take_append_of_le_length (by omega)]
theorem begs_length (fs : List Fr) : (begs fs).length = fs.length := by simp [begs]
theorem begs_at (fs : List Fr) (j : Nat) (h : j < fs.length) : rd (begs fs) (j : Int) = ((putAll_ (fs.take j)).length : Int) := by
  unfold rd begs
  rw [Int.toNat_natCast, List.getD_eq_getElem?_getD, List.getElem?_map, List.getElem?_range h]
  rfl
theorem infoInt : (Try.prog.info? 3).map (fun i => (i.zero, i.size, i.bytes)) = some (some (.int .i64 0), 1, 8) := by kernel_rfl
/-- What the loop of FrameBack holds. -/
structure FB (w : World) (L : List Fr) (i : Nat) (fs : List Fr) (rs : List (Int × Sl)) (v9 v10 v11 : Value) (wr : World) : Prop where
  fsi : fs.length ≤ i
  okf : ∀ f ∈ fs, byF f ∧ okF f = true
  raw : RawOk w rs fs
  all : Kd.R ku8 5 wr w.heap.size (fun _ => True) v9 (putAll_ fs)
  beg : Kd.R (Kd.int .i64) 3 wr w.heap.size (fun _ => True) v10 (begs fs)
  wnt : Kd.R kRaw 27 wr w.heap.size (fun _ => True) v11 rs
  bel : Below w.heap.size w wr
theorem FB.keep {w wr w2 : World} {L : List Fr} {i : Nat} {fs : List Fr} {rs : List (Int × Sl)} {v9 v10 v11 : Value} (h : FB w L i fs rs v9 v10 v11 wr) (hb : Below wr.heap.size wr w2) : FB w L i fs rs v9 v10 v11 w2 :=
  ⟨h.fsi, h.okf, h.raw, Kd.R_below h.all hb, Kd.R_below h.beg hb, Kd.R_below h.wnt hb, below_then h.bel h.bel.size hb⟩
set_option maxRecDepth 100000 in
set_option maxHeartbeats 16000000 in
theorem back_law (A : Option Addr) (c : Nat) (L : List Fr) (A1 : Option Addr) (c1 : Nat) (S : List Int) (which bit : Int) (w : World) (hr : Kd.C k27 w A L.length L) (hc : L.length ≤ c) (hr1 : Kd.C (Kd.int .i64) w A1 S.length S) (hc1 : S.length ≤ c1) (hb : ∀ f ∈ L, byF f ∧ f.f1.length ≤ 140737488351232) :
    Calls Try.prog 5 #[.slice A L.length c, .slice A1 S.length c1, .int .i64 which, .int .i64 bit] w fun e w' => e = .returned (.bool true) ∧ Below w.heap.size w w' := by
  have HL := Lib.hid (And.intro hr (And.intro hc hb))
  have HS := Lib.hid (And.intro hr1 hc1)
  have hln : L.length ≤ 9223372036854775807 := hr.2.1
  clear hr hc hr1 hc1 hb
  go_enter Try.func5, Try.ntmps5
  go_wp2
  go_loopw [9, 10, 11, 12] (fun v9 v10 v11 v12 wr => ∃ (i : Nat) (fs : List Fr) (rs : List (Int × Sl)), i ≤ L.length ∧ i ≤ 5 ∧ v12 = .int .i64 i ∧ Hid (FB w L i fs rs v9 v10 v11 wr)) (fun _ _ _ v12 _ => 5 - (intOf v12).toNat)
  case atStart => exact ⟨0, [], [], Nat.zero_le _, by omega, rfl, Lib.hid ⟨Nat.le_refl _, (fun f hf => by cases hf), ⟨rfl, fun j r f hr => by simp at hr⟩, Kd.R_nil _ _ _ _ _, Kd.R_nil _ _ _ _ _, Kd.R_nil _ _ _ _ _, Below.refl _ _⟩⟩
  case round =>
    obtain ⟨i, fs, rs, hi, hi5, rfl, H⟩ := hrel
    by_cases hlt : i < L.length ∧ i < 5
    · as_aux_lemma =>
      obtain ⟨hlt, hlt5⟩ := hlt
      have p1 : 0 ≤ (i : Int) := by omega
      have q1 : (i : Int) < (L.length : Int) := by omega
      have q5 : (i : Int) < 5 := by omega
      obtain ⟨ad, Ab, cb, e1, hx0, hx1, hcb, hCb⟩ := at_T27 HL.out.1 (i : Int) p1 q1
      cases e1
      have HXW0 := Lib.hid (And.intro hx0 hx1)
      replace hx0 := (H.out.bel.cell (World.block_lt_of_cell? w _ hx0)).trans hx0
      replace hx1 := (H.out.bel.cell (World.block_lt_of_cell? w _ hx1)).trans hx1
      have hby : byF (rd_T27 L (i : Int)) ∧ (rd_T27 L (i : Int)).f1.length ≤ 140737488351232 := by
        have : rd_T27 L (i : Int) = L[i] := by unfold rd_T27; simp [List.getD, hlt]
        rw [this]
        exact HL.out.2.2 _ (List.getElem_mem hlt)
      generalize rd_T27 L (i : Int) = f at hx0 hx1 hcb hCb hby HXW0
      rw [Int.toNat_natCast] at hx0 hx1 HXW0
      have HXW := HXW0
      clear HXW0
      obtain ⟨hby, hfl⟩ := hby
      have HF := Lib.hid (And.intro hby (And.intro hcb hCb))
      have HPut := Lib.hid (put_calls f.f0 f.f1 Ab cb wr (Kd.C_below hCb H.out.bel) hcb hby.1 hby.2 hfl)
      clear hby hcb hCb hfl
      go_wp2_with fail
      refine HPut.out.mono ?_
      rintro e w3 ⟨A3, c3, he, hR, hb⟩
      have hw0 := (World.block_lt_of_cell? wr _ hx0)
      replace hx0 := (hb.cell (World.block_lt_of_cell? wr _ hx0)).trans hx0
      replace hx1 := (hb.cell (World.block_lt_of_cell? wr _ hx1)).trans hx1
      clear hw0
      by_cases hbig : 65536 ≤ f.f1.length
      · as_aux_lemma =>
        have h1 : putE f.f1 = 3 := by unfold putE; rw [if_pos hbig]
        rw [h1] at he
        generalize (putL f.f0 f.f1).length = nl at he
        subst he
        have HK := Lib.hid (H.out.keep hb)
        clear hR hb h1 hbig hx0 hx1
        go_wp2
        go_roundw
        case rel => exact ⟨i + 1, fs, rs, by omega, by omega, by go_num, Lib.hid ⟨by have := HK.out.fsi; omega, HK.out.okf, HK.out.raw, HK.out.all, HK.out.beg, HK.out.wnt, HK.out.bel⟩⟩
        case measure => simp [intOf]; omega
      · as_aux_lemma =>
        have h1 : putE f.f1 = 0 := by unfold putE; rw [if_neg hbig]
        have h2 : putL f.f0 f.f1 = putF f.f0 f.f1 := by unfold putL; rw [if_neg hbig]
        rw [h1, h2] at he
        rw [h2] at hR
        subst he
        have HOK := Lib.hid (show okF f = true from decide_eq_true (by omega))
        have HK := Lib.hid (H.out.keep hb)
        have HR := Lib.hid (Kd.R_lower hR H.out.bel.size)
        have hal := putAll_length fs (fun g hg => (HK.out.okf g hg).2)
        have hfi := HK.out.fsi
        have hbl := begs_length fs
        have hrl := HK.out.raw.1
        have hpl := putF_length f.f0 f.f1
        have HBn := Lib.hid (And.intro hal (And.intro hfi (And.intro hbl (And.intro hrl hpl))))
        have HF64 := Lib.hid (show f.f1.length < 65536 by omega)
        obtain ⟨A9, c9, hv9⟩ := Kd.R_slice HK.out.all
        subst hv9
        have HL9 := Lib.hid (show (putAll_ fs).length ≤ 9223372036854775807 by omega)
        have hl9 : (putAll_ fs).length ≤ 9223372036854775807 := by omega
        have hb10 : ((begs fs).length + 1) * 8 ≤ 140737488355328 := by omega
        have hb11 : ((putAll_ fs).length + (putF f.f0 f.f1).length) * 1 ≤ 140737488355328 := by omega
        have hb12 : (rs.length + 1) * 32 ≤ 140737488355328 := by omega
        have HN := Lib.hid (And.intro hb10 (And.intro hb11 hb12))
        clear H hR hb h1 h2 hbig hal hfi hbl hrl hpl hb10 hb11 hb12 HPut
        obtain ⟨n9, hn9⟩ : ∃ n, n = (putAll_ fs).length := ⟨_, rfl⟩
        rw [← hn9] at hl9 ⊢
        have HN9 := Lib.hid hn9
        have H9 := Lib.hid (show Kd.R ku8 5 w3 w.heap.size (fun _ => True) (.slice A9 n9 c9) (putAll_ fs) by rw [hn9]; exact HK.out.all)
        clear hn9
        have H10 := Lib.hid HK.out.beg
        have H11 := Lib.hid HK.out.wnt
        have HB3 := Lib.hid HK.out.bel
        have HX : Hid (∀ W, Below w.heap.size w W → W.cell? (ad.add (i * 2)) = some (.int .u8 f.f0) ∧ W.cell? ⟨(ad.add (i * 2)).block, (ad.add (i * 2)).off + 1, none⟩ = some (.slice Ab f.f1.length cb)) := Lib.hid (fun W hW => ⟨(hW.cell (World.block_lt_of_cell? w _ HXW.out.1)).trans HXW.out.1, (hW.cell (World.block_lt_of_cell? w _ HXW.out.2)).trans HXW.out.2⟩)
        clear hx0 hx1
        go_wp2_with (first | ((with_reducible refine gate_builtin (b := .append) (xs := #[.tmp 40, .tmp 43]) rfl ?_); at_builtin; refine Kd.R_append (Kd.int .i64) (w0 := w) w.heap.size rfl (.tmp 40) (.tmp 43) 37 3 (.int .i64 0) 8 rfl Try.underlying37 infoInt rfl (by decide) (by omega) u10 (begs fs) (n9 : Int) [.int .i64 (n9 : Int)] (fun _ => True) (fun _ => False) rfl rfl rfl (fun _ hk => hk.elim) (fun _ _ => trivial) H10.out HB3.out HB3.out.size HN.out.1 ?_; intro v10 w4 ho hb hg _; have H9n := Lib.hid (Kd.R_mono (Kd.R_grown (Kd.R_apartR H9.out H10.out (by decide)) hg (fun k hk => hk.2)) (fun _ _ => trivial)); have H11n := Lib.hid (Kd.R_mono (Kd.R_grown (Kd.R_apartR H11.out H10.out (by decide)) hg (fun k hk => hk.2)) (fun _ _ => trivial)); have HRn := Lib.hid (Kd.R_mono (Kd.R_grown (Kd.R_apartR HR.out H10.out (by decide)) hg (fun k hk => hk.2)) (fun _ _ => trivial)); have H10n := Lib.hid ho; have HB3n := Lib.hid hb; clear ho hb hg; clear H9 H10 H11 HR HB3; have H9 := H9n; have H10 := H10n; have H11 := H11n; have HR := HRn; have HB3 := HB3n; clear H9n H10n H11n HRn HB3n) | ((with_reducible refine gate_builtin (b := .append) (xs := #[.tmp 45, .tmp 46]) rfl ?_); at_builtin; refine Kd.R_append_rows ku8 (w0 := w) w.heap.size rfl (.tmp 45) (.tmp 46) 22 5 (.int .u8 0) 1 rfl Try.underlying22 Low.info8 rfl (by decide) (by omega) (.slice A9 n9 c9) (putAll_ fs) (putF f.f0 f.f1) _ _ _ (fun _ => True) (fun _ => False) rfl rfl H9.out (Kd.R_reads' HR.out).2.2 (fun _ _ h => h) (fun _ h => h.elim) (fun _ _ => trivial) HB3.out HB3.out.size HN.out.2.1 ?_; intro v9 w5 ho hb hg _; have H10n := Lib.hid (Kd.R_mono (Kd.R_grown (Kd.R_apartR H10.out H9.out (by decide)) hg (fun k hk => hk.2)) (fun _ _ => trivial)); have H11n := Lib.hid (Kd.R_mono (Kd.R_grown (Kd.R_apartR H11.out H9.out (by decide)) hg (fun k hk => hk.2)) (fun _ _ => trivial)); have H9n := Lib.hid ho; have hx0 := (HX.out _ hb).1; have hx1 := (HX.out _ hb).2; have HB3n := Lib.hid hb; clear ho hb hg; clear H9 H10 H11 HB3; have H9 := H9n; have H10 := H10n; have H11 := H11n; have HB3 := HB3n; clear H9n H10n H11n HB3n) | ((with_reducible refine gate_builtin (b := .append) (xs := #[.tmp 48, .tmp 53]) rfl ?_); at_builtin; refine Kd.R_append kRaw (w0 := w) w.heap.size rfl (.tmp 48) (.tmp 53) 30 27 (.agg #[.int .u8 0, .slice none 0 0]) 32 rfl Try.underlying30 infoFr rfl (by decide) (by omega) u11 rs ((f.f0, (Ab, f.f1.length, cb)) : Int × Sl) [.int .u8 f.f0, .slice Ab f.f1.length cb] (fun _ => True) (fun _ => False) rfl rfl ⟨[.int .u8 f.f0], [.slice Ab f.f1.length cb], rfl, rfl, rfl⟩ (fun _ hk => hk.elim) (fun _ _ => trivial) H11.out HB3.out HB3.out.size HN.out.2.2 ?_; intro v11 w6 ho hb hg _; have H9n := Lib.hid (Kd.R_mono (Kd.R_grown (Kd.R_apartR H9.out H11.out (by decide)) hg (fun k hk => hk.2)) (fun _ _ => trivial)); have H10n := Lib.hid (Kd.R_mono (Kd.R_grown (Kd.R_apartR H10.out H11.out (by decide)) hg (fun k hk => hk.2)) (fun _ _ => trivial)); have H11n := Lib.hid ho; have HB3n := Lib.hid hb; clear ho hb hg hx0 hx1; clear H9 H10 H11 HB3; have H9 := H9n; have H10 := H10n; have H11 := H11n; have HB3 := HB3n; clear H9n H10n H11n HB3n))
        go_roundw
        case rel => exact ⟨i + 1, fs ++ [f], rs ++ [((f.f0, (Ab, f.f1.length, cb)) : Int × Sl)], by omega, by omega, by go_num, Lib.hid ⟨by rw [List.length_append]; have := HK.out.fsi; simp only [List.length_cons, List.length_nil]; omega, (fun g hg => by
          rcases List.mem_append.1 hg with hg | hg
          · exact HK.out.okf g hg
          · rw [List.mem_singleton.1 hg]; exact ⟨HF.out.1, HOK.out⟩), HK.out.raw.snoc ⟨rfl, rfl, HF.out.2.1, HF.out.2.2⟩, by rw [putAll_append]; simpa [putAll_] using H9.out, by rw [begs_snoc, ← HN9.out]; exact H10.out, H11.out, HB3.out⟩⟩
        case measure => simp [intOf]; omega
    · as_aux_lemma =>
      obtain ⟨A9, c9, hv9⟩ := Kd.R_slice H.out.all
      obtain ⟨A10, c10, hv10⟩ := Kd.R_slice H.out.beg
      obtain ⟨A11, c11, hv11⟩ := Kd.R_slice H.out.wnt
      subst hv9 hv10 hv11
      have hpl := putAll_length fs (fun g hg => (H.out.okf g hg).2)
      have hfi := H.out.fsi
      have hby := putAll_bytes fs (fun g hg => (H.out.okf g hg).1)
      have hfd : feedF (putAll_ fs) = (fs, false, []) := by
        have h := feed_all fs [] H.out.okf
        rw [List.append_nil, fd_short (l := []) (by decide), List.append_nil] at h
        exact h
      have HD := Lib.hid hfd
      have H1 := fed_calls (putAll_ fs) A9 c9 S A1 c1 wr (Kd.R_reads' H.out.all).2.2 (Kd.R_reads' H.out.all).2.1 (Kd.C_below HS.out.1 H.out.bel) HS.out.2 hby (by omega)
      have hnf : fs.length ≤ 5 := by omega
      have hpn : (putAll_ fs).length ≤ 327720 := by omega
      have hbl := begs_length fs
      have hrl := H.out.raw.1
      have hz0 : ((putAll_ fs).length = 0) ↔ fs.length = 0 := by
        cases fs with
        | nil => simp [putAll_]
        | cons f l => simp only [putAll_, List.length_append, putF_length, List.length_cons]; omega
      have HZ := Lib.hid hz0
      have HBY := Lib.hid hby
      rw [hbl, hrl]
      obtain ⟨n9, hn9⟩ : ∃ n, n = (putAll_ fs).length := ⟨_, rfl⟩
      obtain ⟨nf, hnfe⟩ : ∃ n, n = fs.length := ⟨_, rfl⟩
      rw [← hn9] at hpn H1 ⊢
      rw [← hnfe] at hnf ⊢
      have HN := Lib.hid (And.intro hn9 (And.intro hnfe (And.intro hbl hrl)))
      have H1h := Lib.hid H1
      clear hpl hfi hby hfd H1 hbl hrl hn9 hnfe hz0
      have hex : (¬ (i : Int) < (L.length : Int)) ∨ ((i : Int) < (L.length : Int) ∧ ¬ (i : Int) < 5) := by omega
      have p1 : 0 ≤ (i : Int) := by omega
      clear hlt
      rcases hex with q1 | ⟨q1, q5⟩
      all_goals
        go_wp2_with fail
        refine H1h.out.mono ?_
        rintro e w2 ⟨Av, cv, he, hR, hb⟩
        rw [HD.out] at he hR
        replace he : e = .returned (.tuple #[.slice Av nf cv, .bool false, .int .i64 0]) := by rw [he, HN.out.2.1]; rfl
        subst he
        have HR := Lib.hid hR
        have HK := Lib.hid (H.out.keep hb)
        have HSF := same_frames fs Av cv A11 c11 w2 (by rw [← HN.out.2.1]; omega) (Kd.R_reads' hR).2.2 (Kd.R_reads' hR).2.1 (raw_C (Kd.R_reads' HK.out.wnt).2.2 HK.out.raw HK.out.bel) (by rw [← HK.out.raw.1]; exact (Kd.R_reads' HK.out.wnt).2.1)
        rw [← HN.out.2.1] at HSF
        replace HSF := Lib.hid HSF
        clear hR hb H1h
        go_wp2_with fail
        refine HSF.out.mono ?_
        rintro e w3 ⟨rfl, hd⟩
        replace HK := Lib.hid (HK.out.keep hd.below)
        clear hd HSF HR
        by_cases hz : n9 = 0
        · as_aux_lemma =>
          have hzb : ((n9 : Int) == 0) = true := beq_iff_eq.2 (by omega)
          have hz2 : (n9 : Int) = 0 := by omega
          have HZ0 := Lib.hid hz
          clear hz hz2
          go_wp2_with fail
          refine (awake_calls _).mono ?_
          rintro e w4 ⟨rfl, hb⟩
          have HB := Lib.hid (below_then HK.out.bel HK.out.bel.size hb)
          clear hb
          go_wp2
          go_ret
          exact ⟨rfl, HB.out⟩
        · as_aux_lemma =>
          have hzb : ((n9 : Int) == 0) = false := beq_eq_false_iff_ne.2 (by omega)
          have hnf1 : 1 ≤ nf := by
            have h := HZ.out
            rw [← HN.out.1, ← HN.out.2.1] at h
            omega
          obtain ⟨j, hj, hpj⟩ := pick_any which nf hnf1 (by omega)
          have HPJ := Lib.hid hpj
          clear hpj hz
          go_wp2_with fail
          refine (HPJ.out _).mono ?_
          rintro e w4 ⟨rfl, hd⟩
          replace HK := Lib.hid (HK.out.keep hd.below)
          clear hd HPJ
          go_upto_region 18 with (fail)
          have hjf : j < fs.length := by rw [← HN.out.2.1]; exact hj
          have hjr : j < rs.length := by rw [HK.out.raw.1]; exact hjf
          obtain ⟨ad10, e10, hx10⟩ := Kd.at_int (Kd.R_reads' HK.out.beg).2.2 (j : Int) (by omega) (by rw [begs_length]; omega)
          rw [begs_at fs j hjf, Int.toNat_natCast] at hx10
          obtain ⟨ad11, e11, hx11⟩ := at_raw (Kd.R_reads' HK.out.wnt).2.2 j hjr
          have hone := HK.out.raw.2 j rs[j] fs[j] (List.getElem?_eq_getElem hjr) (List.getElem?_eq_getElem hjf)
          rw [hone.len] at hx11
          generalize rs[j].2.1 = Aj at hx11
          generalize rs[j].2.2.2 = cj at hx11
          cases e10
          cases e11
          have hlnb := of_decide_eq_true (HK.out.okf fs[j] (List.getElem_mem hjf)).2
          have hjo : (putAll_ (fs.take j)).length ≤ 327720 := by
            have h := putAll_length (fs.take j) (fun g hg => (HK.out.okf g (List.mem_of_mem_take hg)).2)
            rw [List.length_take] at h
            omega
          have HJ := Lib.hid (show ∃ h : j < fs.length, True from ⟨hjf, trivial⟩)
          obtain ⟨ln, hln⟩ : ∃ n, n = (fs[j]'hjf).f1.length := ⟨_, rfl⟩
          obtain ⟨bj, hbj⟩ : ∃ n, n = (putAll_ (fs.take j)).length := ⟨_, rfl⟩
          rw [← hln] at hx11 hlnb
          rw [← hbj] at hx10 hjo
          have HLN := Lib.hid (And.intro hln hbj)
          obtain ⟨pk, hpk, hpp⟩ := pick_any bit (8 * (ln + 5)) (by omega) (by omega)
          have HPB : Hid (∀ W, Calls Try.prog 16 #[.int .i64 bit, .int .i64 (8 * ((ln : Int) + 5))] W fun e w' => e = .returned (.int .i64 pk) ∧ ∃ m, w' = W.drewN m) := Lib.hid (fun W => by
            have h := hpp W
            rw [show ((8 * (ln + 5) : Nat) : Int) = 8 * ((ln : Int) + 5) by omega] at h
            exact h.mono (fun _ _ ⟨h1, h2⟩ => ⟨h1, h2.out⟩))
          have v1 : IntKind.i64.wrap ((bj : Int) + 4) = (bj : Int) + 4 := by rw [IntKind.wrap_i64]; omega
          have v2 : IntKind.i64.wrap (8 * ((bj : Int) + 4)) = 8 * ((bj : Int) + 4) := by rw [IntKind.wrap_i64]; omega
          have v3 : IntKind.i64.wrap ((ln : Int) + 5) = (ln : Int) + 5 := by rw [IntKind.wrap_i64]; omega
          have v4 : IntKind.i64.wrap (8 * ((ln : Int) + 5)) = 8 * ((ln : Int) + 5) := by rw [IntKind.wrap_i64]; omega
          have v5 : IntKind.i64.wrap (8 * ((bj : Int) + 4) + (pk : Int)) = 8 * ((bj : Int) + 4) + (pk : Int) := by rw [IntKind.wrap_i64]; omega
          have p2 : 0 ≤ (j : Int) := by omega
          have q2 : (j : Int) < (nf : Int) := by omega
          clear hln hbj hpp hone hjr
          go_quiet ((go_at_call 16; exact Calls.quiet_of (HPB.out _)))
          replace HK := Lib.hid (HK.out.keep (pw_below_drewN (Below.refl w4.heap.size w4) nq))
          generalize w4.drewN nq = w5 at *
          obtain ⟨K, hK, hK8, hKm⟩ : ∃ K : Nat, 8 * ((bj : Int) + 4) + (pk : Int) = (K : Int) ∧ K / 8 = bj + 4 + pk / 8 ∧ K % 8 = pk % 8 := ⟨8 * (bj + 4) + pk, by omega, by omega, by omega⟩
          rw [hK]
          have HK8 := Lib.hid (And.intro hK8 hKm)
          have hoff : pk / 8 < ln + 5 := by omega
          have hposn : bj + 4 + pk / 8 < n9 := by
            rw [HN.out.1, HLN.out.2]
            exact (turned fs HK.out.okf j hjf (pk / 8) (by rw [← HLN.out.1]; exact hoff) (if (putAll_ fs).getD ((putAll_ (fs.take j)).length + 4 + pk / 8) 0 = 0 then 1 else 0) (by split <;> decide) (by split <;> omega)).1
          obtain ⟨g9, cap9, hv, _⟩ := Kd.R_form HK.out.all (by rw [← HN.out.1]; omega)
          obtain rfl : A9 = some ⟨g9, 0, none⟩ := by simp at hv; exact hv.1
          clear hv
          obtain ⟨ad9, e9, hx9⟩ := Kd.at_int (Kd.R_reads' HK.out.all).2.2 ((K / 8 : Nat) : Int) (by omega) (by rw [← HN.out.1]; omega)
          cases e9
          rw [Int.toNat_natCast] at hx9
          have hab : 0 ≤ rd (putAll_ fs) ((K / 8 : Nat) : Int) ∧ rd (putAll_ fs) ((K / 8 : Nat) : Int) ≤ 255 := HBY.out _ (Low.rd_mem (by rw [← HN.out.1]; omega))
          obtain ⟨a, ha⟩ : ∃ a, a = rd (putAll_ fs) ((K / 8 : Nat) : Int) := ⟨_, rfl⟩
          rw [← ha] at hx9 hab
          have HA := Lib.hid ha
          have hab0 := hab.1
          have hab1 := hab.2
          have p8 : 0 ≤ (K : Int) / 8 := by omega
          have q8 : (K : Int) / 8 < (n9 : Int) := by omega
          have hK0 : (K : Int) ≤ 9223372036854775807 := by omega
          replace hx9 : w5.cell? ⟨g9, K / 8, none⟩ = some (.int .u8 a) := by
            have h := hx9
            simp only [add_plain, Nat.zero_add] at h
            exact h
          have hx9f : w5.frozen? ⟨g9, K / 8, none⟩ = false := by
            obtain ⟨_, _, hv, _, _, cells, hcl⟩ := Kd.R_form HK.out.all (by rw [← HN.out.1]; omega)
            obtain rfl := (by simp at hv; exact hv.1 : g9 = _)
            exact blk_frozen hcl _
          have pm8 : 0 ≤ (K : Int) % 8 := by omega
          have qm8 : (K : Int) % 8 < 8 := by omega
          clear v1 v2 v3 v4 v5 hK hx10 hx11 ha HPB hab hK8 hKm
          go_wp2_with fail
          obtain ⟨y, hy⟩ : ∃ y, y = Go.bits .xor .u8 a (2 ^ (K % 8) % 256) := ⟨_, rfl⟩
          rw [← hy]
          have hxb := xor_bit a ⟨hab0, hab1⟩ (K % 8) (by omega)
          have h256 : (2 : Int) ^ (K % 8) % 256 = 2 ^ (K % 8) := by
            have hl : K % 8 < 8 := by omega
            generalize K % 8 = q at hl
            match q, hl with
            | 0, _ => rfl
            | 1, _ => rfl
            | 2, _ => rfl
            | 3, _ => rfl
            | 4, _ => rfl
            | 5, _ => rfl
            | 6, _ => rfl
            | 7, _ => rfl
          rw [h256] at hy
          rw [← hy] at hxb
          have hK8 := HK8.out.1
          have hgd : (putAll_ fs).getD ((putAll_ (fs.take j)).length + 4 + pk / 8) 0 = a := by
            rw [HA.out, ← HLN.out.2, ← hK8]
            unfold rd
            rw [Int.toNat_natCast]
          have htn := (turned fs HK.out.okf j hjf (pk / 8) (by rw [← HLN.out.1]; exact hoff) y hxb.1 (by rw [hgd]; exact hxb.2)).2
          rw [← HLN.out.2, ← hK8] at htn
          have hbyn : Bytes ((putAll_ fs).set (K / 8) y) := fun x hx => by
            rcases List.mem_or_eq_of_mem_set hx with hx | rfl
            · exact HBY.out x hx
            · exact hxb.1
          have hrow : Kd.R ku8 5 w5 w.heap.size (fun _ => True) (.slice (some ⟨g9, 0, none⟩) n9 c9) (putAll_ fs) := by rw [HN.out.1]; exact HK.out.all
          obtain ⟨hR6, hG6⟩ := set_R hrow (K / 8) (by omega) y (by rw [← HA.out]; exact hx9)
          have hgb : w.heap.size ≤ g9 := Kd.R_base hrow g9 (by simp [Value.ownBlock])
          have hB6 : Below w.heap.size w (w5.setCell ⟨g9, K / 8, none⟩ (.int .u8 y)) := HK.out.bel.setCell hgb _
          have hW6 : Kd.R kRaw 27 (w5.setCell ⟨g9, K / 8, none⟩ (.int .u8 y)) w.heap.size (fun _ => True) (.slice (some ad11) rs.length c11) rs :=
            Kd.R_mono (Kd.R_grown (Kd.R_apartR HK.out.wnt hrow (by decide)) hG6 (fun k hk he => hk.2 (by rw [he]; simp [Value.ownBlock]))) (fun _ _ => trivial)
          have h2 := fed_calls ((putAll_ fs).set (K / 8) y) (some ⟨g9, 0, none⟩) c9 S A1 c1 _ (Kd.R_reads' hR6).2.2 (by rw [← (Kd.R_reads' hR6).1]; exact (Kd.R_reads' hR6).2.1) (Kd.C_below HS.out.1 hB6) HS.out.2 hbyn (by rw [List.length_set, ← HN.out.1]; omega)
          rw [List.length_set, ← HN.out.1] at h2
          have H2 := Lib.hid h2
          have HT := Lib.hid htn
          have HW6 := Lib.hid (And.intro hW6 hB6)
          obtain ⟨w6, hw6⟩ : ∃ W, W = w5.setCell ⟨g9, K / 8, none⟩ (.int .u8 y) := ⟨_, rfl⟩
          rw [← hw6] at H2 HW6 ⊢
          have HJF := Lib.hid hjf
          have HRAW := Lib.hid HK.out.raw
          have HJ5 := Lib.hid (show j ≤ 4398046511104 by omega)
          have hjc : j ≤ c11 := by have h := (Kd.R_reads' HK.out.wnt).2.1; have h3 := HK.out.raw.1; rw [← HN.out.2.1] at h3; omega
          clear hy hxb h256 hK8 hgd htn hbyn hrow hR6 hG6 hgb hB6 hW6 h2 hw6 hx9 hx9f
          refine H2.out.mono ?_
          rintro e w7 ⟨Aw, cw, he, hR, hb⟩
          rw [HT.out] at he hR
          have htl : (fs.take j).length = j := by rw [List.length_take]; have := HJF.out; omega
          rw [htl] at he hR
          replace he : e = .returned (.tuple #[.slice Aw j cw, .bool true, .int .i64 0]) := he
          subst he
          have hB7 := below_then HW6.out.2 HW6.out.2.size hb
          have hwr := (Kd.R_reads' (Kd.R_below HW6.out.1 hb)).2.2
          have hrt : (rs.take j).length = j := by rw [List.length_take, HRAW.out.1]; have := HJF.out; omega
          have hwt := C_take hwr j (by rw [HRAW.out.1]; exact Nat.le_of_lt HJF.out)
          have hSF := same_frames (fs.take j) Aw cw (some ad11) c11 w7 (by rw [htl]; exact HJ5.out) (by rw [htl]; have := (Kd.R_reads' hR).2.2; rwa [htl] at this) (by rw [htl]; exact (Kd.R_reads' hR).2.1) (raw_C hwt (raw_take HRAW.out j) hB7) (by rw [htl]; exact hjc)
          rw [htl] at hSF
          have HSF := Lib.hid hSF
          have HB7 := Lib.hid hB7
          obtain ⟨i1, hi1, _⟩ := info_parts infoFr
          have hcut := cut_hs (P := Try.prog) 30 27 Try.underlying30 hi1 (some ad11) nf c11 j hjc
          clear hR hb htl hB7 hwr hrt hwt hSF H2 hi1
          go_wp2_with fail
          refine HSF.out.mono ?_
          rintro e w8 ⟨rfl, hd⟩
          replace HB7 := Lib.hid (below_then HB7.out HB7.out.size hd.below)
          clear hd HSF
          go_wp2_with fail
          refine (awake_calls _).mono ?_
          rintro e w9 ⟨rfl, hb⟩
          replace HB7 := Lib.hid (below_then HB7.out HB7.out.size hb)
          clear hb
          go_wp2
          go_ret
          exact ⟨rfl, HB7.out⟩
end Go.Proofs.Ytajlmjmhkhdmdaa.PF
