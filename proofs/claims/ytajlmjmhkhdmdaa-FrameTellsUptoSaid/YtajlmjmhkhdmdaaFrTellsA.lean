/- FrameTells: what its calls leave, so that two readers, a lent list and the document's reader stay apart. -/
import Derived.Test.YtajlmjmhkhdmdaaFrNum
import Derived.Test.YtajlmjmhkhdmdaaFrRefW
import Derived.Test.YtajlmjmhkhdmdaaFrCopy
import Derived.Test.YtajlmjmhkhdmdaaFrOver
import Derived.Test.YtajlmjmhkhdmdaaFrPutR
set_option linter.unusedVariables false
set_option linter.unusedSimpArgs false
namespace Go.Proofs.Ytajlmjmhkhdmdaa.PF
open Go.RowKit Go.Proofs.YtajlmjmhkhdmdaaW.PrintWords Go.Proofs.YtajlmjmhkhdmdaaW.PrintLast Go.Proofs.YtajlmjmhkhdmdaaW.PrintMore
attribute [local go_sem] max2_int min2_int max_two min_two
/-- A lent list, owned: its block. -/
structure LentO (w : World) (g cap : Nat) (l : List Int) : Prop where
  own : Kd.R ku8 5 w 0 (fun k => k = g) (.slice (some ⟨g, 0, none⟩) (l.length + 3) cap) (l ++ [77, 78, 79])
theorem LentO.lent {w : World} {g cap : Nat} {l : List Int} (h : LentO w g cap l) : Low.Lent w ⟨g, 0, none⟩ cap l := by
  obtain ⟨ad, c, hv, hc, hC⟩ := Low.lent_of h.own
  injection hv with h1 h2 h3
  injection h1 with h1
  subst h1; subst h3
  exact ⟨hc, hC⟩
theorem LentO.row {w : World} {g cap : Nat} {l : List Int} (h : LentO w g cap l) : ∃ cells, w.heap[g]? = some (.cells cells 5 (0, 0)) ∧ l.length + 3 ≤ cells.size := by
  obtain ⟨inner, ho⟩ := Kd.R_own h.own
  rcases ho.2 with ⟨hv, _⟩ | ⟨g', cap', cur, hv, hb, hh, hnc, hcm, hcs, ht⟩
  · cases hv
  · injection hv with h1 h2 h3
    injection h1 with h1
    injection h1 with h1
    subst h1
    have e : (l ++ [77, 78, 79]).length = l.length + 3 := by simp
    rw [e] at hnc
    refine ⟨cur, hh, ?_⟩
    have : cur.size = cap' * 1 := hcs
    omega
theorem LentO.step {w w' : World} {g cap : Nat} {l : List Int} (h : LentO w g cap l) (hb : w'.heap[g]? = w.heap[g]?) : LentO w' g cap l := ⟨Kd.R_step h.own (fun k hk _ => by rw [hk]; exact hb)⟩
set_option maxHeartbeats 1000000 in
theorem lentO_calls (A : Option Addr) (c : Nat) (l : List Int) (w : World) (hr : Kd.C ku8 w A l.length l) (hl : l.length ≤ 140737488355325) :
    Calls Try.prog 17 #[.slice A l.length c] w fun e w' => ∃ g cap, e = .returned (.slice (some ⟨g, 0, none⟩) l.length cap) ∧ w.heap.size ≤ g ∧ l.length + 3 ≤ cap ∧ LentO w' g cap l ∧ Below w.heap.size w w' := by
  have H := Lib.hid (Low.copy_calls A c l w hr (by omega))
  clear hr
  go_enter Try.func17, Try.ntmps17
  go_wp2_with fail
  refine H.out.mono ?_
  rintro e w1 ⟨v0, rfl, ho0, hb0⟩
  have HO0 := Lib.hid ho0
  have HB0 := Lib.hid hb0
  have hs0 := hb0.size
  clear ho0 hb0
  obtain ⟨i0, hi, _, hz1, _⟩ := info_parts Low.info8
  go_wp2_with ((with_reducible refine gate_builtin (b := .append) (xs := #[.tmp 5, .tmp 6]) rfl ?_); at_builtin; refine Kd.R_append_rows ku8 (w0 := w) w.heap.size rfl (.tmp 5) (.tmp 6) 22 5 (.int .u8 0) 1 rfl Try.underlying22 Low.info8 rfl (by decide) (by omega) v0 l ([77, 78, 79] : List Int) _ _ _ (fun _ => True) (fun _ => False) rfl rfl (Kd.R_alloc HO0.out _) (Low.const_reads w1 [77, 78, 79] (0, 0) (by decide)) (fun _ _ h => h) (fun _ h => h.elim) (fun _ _ => trivial) (below_alloc HB0.out _) (by simp; omega) (by simp; omega) ?_; intro v w3 ho hb _ _; obtain ⟨ad, c1, hv, hc1, hC⟩ := Low.lent_of ho; subst hv; obtain ⟨g, hg⟩ := Kd.R_head ho; subst hg; have hcut := Low.cut_h (P := Try.prog) 22 5 Try.underlying22 hi hz1 (some ⟨g, 0, none⟩) (l.length + 3) c1 l.length (by omega); have HB := Lib.hid hb; have HC := Lib.hid (And.intro ho hc1); clear ho hb hC hc1)
  go_ret
  refine ⟨g, c1, rfl, Kd.R_base HC.out.1 g (by simp [Value.ownBlock]), HC.out.2, ⟨?_⟩, HB.out⟩
  refine Kd.R_lower (Kd.R_mono (own_R HC.out.1) (fun k hk => ?_)) (Nat.zero_le _)
  simp [Value.ownBlock] at hk
  exact hk
/-- What a reader's feeding leaves, and what it leaves alone. -/
def FedX (w0 w : World) (bx : Nat) (br : Bool) (left x : List Int) (A : Option Addr) (c : Nat) (e : Ending) (w' : World) : Prop :=
  ∃ v A' c', e = .returned (.tuple #[v, .int .i64 (if (refS br left x).2.1 = true then 30 else 0)]) ∧ Kd.R k27 27 w' w.heap.size (fun _ => True) v (refS br left x).1 ∧
    St w0.heap.size bx ([], (refS br left x).2) (.slice none 0 0) A' c' w' ∧ Else w w' bx (fun k => some k = Value.ownBlock (.slice A left.length c)) ∧ Below w0.heap.size w0 w' ∧ ∀ k, Value.ownBlock (.slice A' (refS br left x).2.2.length c') = some k → w.heap.size ≤ k
theorem feed_full {w0 w : World} {bx : Nat} {br : Bool} {left : List Int} {A : Option Addr} {c : Nat} (h : St w0.heap.size bx ([], br, left) (.slice none 0 0) A c w) (hB0 : Below w0.heap.size w0 w) (x : List Int) (B : Option Addr) (cx : Nat) (hx : Kd.C ku8 w B x.length x) (hcx : x.length ≤ cx) (hl : Bytes left) (hxb : Bytes x) (hlen : left.length + x.length ≤ 4398046511104) :
    Calls Try.prog 10 #[.pointer (some ⟨bx, 0, none⟩), .slice B x.length cx] w (FedX w0 w bx br left x A c) := by
  cases br with
  | true =>
    obtain ⟨rfl, rfl⟩ := h.nil_ rfl
    refine (feed_broken h.box B x.length cx).mono ?_
    rintro e w' ⟨rfl, rfl⟩
    exact ⟨.slice none 0 0, none, 0, rfl, Kd.R_nil _ _ _ _ _, h, ⟨Nat.le_refl _, fun _ _ _ _ => rfl⟩, hB0, fun k hk => by simp [Value.ownBlock] at hk⟩
  | false =>
    refine (feed_calls bx A c left x (left ++ x) rfl B cx w w0.heap.size _ h.box h.left (fun k hk => h.apart k hk.symm) h.hi hx hcx hl hxb hlen).mono ?_
    rintro e w' ⟨v, A', c', g, rfl, hg, hv, hbx', hnil, hleft, hels, hbel⟩
    have hlb := Kd.R_base hleft
    have hbg : bx < g := Nat.lt_of_lt_of_le h.box.lt hg
    exact ⟨v, A', c', rfl, Kd.R_mono hv (fun _ _ => trivial), ⟨hbx', hnil, fun k hk => by have := hlb k hk; omega, Kd.R_lower (own_R hleft) (Nat.le_trans hB0.size hg), Kd.R_nil _ _ _ _ _, h.hi⟩, hels, hbel _ w0 (Nat.le_refl _) hB0, fun k hk => by have := hlb k hk; omega⟩
/-- A reader is as it was, where its box and its row are. -/
theorem St.other {B0 bx : Nat} {br : Bool} {left : List Int} {A : Option Addr} {c : Nat} {w w' : World} (h : St B0 bx ([], br, left) (.slice none 0 0) A c w) (hs : ∀ k, k < w.heap.size → (k = bx ∨ some k = Value.ownBlock (.slice A left.length c)) → w'.heap[k]? = w.heap[k]?) : St B0 bx ([], br, left) (.slice none 0 0) A c w' :=
  ⟨(hs bx h.box.lt (Or.inl rfl)).trans h.box, h.nil_, h.apart, Kd.R_step h.left (fun k hk hlt => hs k hlt (Or.inr hk)), Kd.R_nil _ _ _ _ _, h.hi⟩
/-- Feeding a reader that is nobody else's. -/
theorem feed_x {w : World} {b B0 : Nat} {br : Bool} {left : List Int} {A : Option Addr} {c : Nat} {ok : Nat → Prop} (hbx : RB w b br A left.length c) (hR : Kd.R ku8 5 w B0 ok (.slice A left.length c) left) (hok : ∀ k, ok k → k ≠ b) (hB : B0 ≤ b) (hbl : br = true → left = [])
    (x : List Int) (B : Option Addr) (cx : Nat) (hx : Kd.C ku8 w B x.length x) (hcx : x.length ≤ cx) (hl : Bytes left) (hxb : Bytes x) (hlen : left.length + x.length ≤ 4398046511104) :
    Calls Try.prog 10 #[.pointer (some ⟨b, 0, none⟩), .slice B x.length cx] w fun e w' => ∃ v, e = .returned (.tuple #[v, .int .i64 (if (refS br left x).2.1 = true then 30 else 0)]) ∧ Kd.R k27 27 w' w.heap.size (fun _ => True) v (refS br left x).1 ∧ (∀ B w0, B ≤ B0 → Below B w0 w → Below B w0 w') ∧ Else w w' b (fun k => some k = Value.ownBlock (.slice A left.length c)) := by
  cases br with
  | true =>
    refine (feed_broken hbx B x.length cx).mono ?_
    rintro e w' ⟨rfl, rfl⟩
    exact ⟨.slice none 0 0, rfl, Kd.R_nil _ _ _ _ _, fun _ _ _ h => h, ⟨Nat.le_refl _, fun _ _ _ _ => rfl⟩⟩
  | false =>
    refine (feed_calls b A c left x (left ++ x) rfl B cx w B0 _ hbx (own_R hR) (fun k hk => hok k (hR.1 k hk.symm)) hB hx hcx hl hxb hlen).mono ?_
    rintro e w' ⟨v, A', c', g, rfl, hg, hv, hbx', hnil, hleft, hels, hbel⟩
    exact ⟨v, rfl, Kd.R_mono hv (fun _ _ => trivial), hbel, hels⟩
theorem C_blk {w w' : World} {A : Option Addr} {xs : List Int} (h : Kd.C ku8 w A xs.length xs) (hs : ∀ ad, A = some ad → 0 < xs.length → w'.heap[ad.block]? = w.heap[ad.block]?) : Kd.C ku8 w' A xs.length xs := by
  refine ⟨rfl, h.2.1, fun hp => ?_⟩
  obtain ⟨ad, e, hc⟩ := h.2.2 hp
  refine ⟨ad, e, fun j p hj => ?_⟩
  obtain ⟨cs, h1, h2, h3⟩ := hc j p hj
  refine ⟨cs, h1, h2, fun i u hu => ?_⟩
  have hb : w'.heap[(ad.add (j * ku8.sz + i)).block]? = w.heap[(ad.add (j * ku8.sz + i)).block]? := by rw [add_blk]; exact hs ad e hp
  exact (World.cell?_of_block hb).trans (h3 i u hu)
theorem C_blt {w : World} {A : Option Addr} {xs : List Int} (h : Kd.C ku8 w A xs.length xs) {ad : Addr} (e : A = some ad) (hp : 0 < xs.length) : ad.block < w.heap.size := by
  subst e
  exact Kd.C_lt h hp (by decide)
/-- What the loop of FrameTells holds. -/
structure FT (w w2 : World) (bx b11 : Nat) (br : Bool) (left : List Int) (A : Option Addr) (c : Nat) (Al : Option Addr) (cl : Nat) (wr : World) : Prop where
  st : St w2.heap.size bx ([], br, left) (.slice none 0 0) A c wr
  bel2 : Below w2.heap.size w2 wr
  belw : Below w.heap.size w wr
  rbox : wr.heap[b11]? = some (.cells #[.slice Al left.length cl, .bool br] 47 (0, 0))
  rrd : Kd.C ku8 wr Al left.length left
  rcap : left.length ≤ cl
  rap : ∀ ad, Al = some ad → 0 < left.length → ad.block ≠ bx ∧ some ad.block ≠ Value.ownBlock (.slice A left.length c)
  nb : b11 ≠ bx ∧ some b11 ≠ Value.ownBlock (.slice A left.length c)
  hi : w2.heap.size ≤ b11
  lb : Bytes left
  ll : left.length < 65544
  brl : br = true → left = []
theorem FT.keep {w w2 : World} {bx b11 : Nat} {br : Bool} {left : List Int} {A : Option Addr} {c : Nat} {Al : Option Addr} {cl : Nat} {wr w' : World} (h : FT w w2 bx b11 br left A c Al cl wr) (hb : Below wr.heap.size wr w') : FT w w2 bx b11 br left A c Al cl w' :=
  ⟨h.st.keep hb, below_then h.bel2 h.bel2.size hb, below_then h.belw h.belw.size hb, blk_below h.rbox hb, Kd.C_below h.rrd hb, h.rcap, h.rap, h.nb, h.hi, h.lb, h.ll, h.brl⟩
/-- Behind the first feeding and the writing over: the two readers, the document's, the frames. -/
structure F6 (w w2 : World) (bx b11 b3 : Nat) (br : Bool) (left x : List Int) (A4 : Option Addr) (c4 : Nat) (A3 : Option Addr) (c3 : Nat) (Al : Option Addr) (cl : Nat) (v15 : Value) (B1 : Nat) (w6 : World) : Prop where
  st : St w2.heap.size bx ([], (refS br left x).2) (.slice none 0 0) A4 c4 w6
  bel2 : Below w2.heap.size w2 w6
  belw : Below w.heap.size w w6
  rbox : w6.heap[b11]? = some (.cells #[.slice Al left.length cl, .bool br] 47 (0, 0))
  rrd : Kd.C ku8 w6 Al left.length left
  rcap : left.length ≤ cl
  xbox : RB w6 b3 br A3 left.length c3
  xown : Kd.R ku8 5 w6 B1 (fun k => True ∧ k ≠ b3) (.slice A3 left.length c3) left
  xhi : B1 ≤ b3
  fr : Kd.R k27 27 w6 0 (fun _ => True) v15 (refS br left x).1
  nb : b11 ≠ bx ∧ some b11 ≠ Value.ownBlock (.slice A4 (refS br left x).2.2.length c4)
  far : ∀ k, Value.ownBlock (.slice A4 (refS br left x).2.2.length c4) = some k → k ≠ b3 ∧ some k ≠ Value.ownBlock (.slice A3 left.length c3)
  b11lt : b11 < B1
  bxlt : bx < B1
theorem F6.keep {w w2 : World} {bx b11 b3 : Nat} {br : Bool} {left x : List Int} {A4 : Option Addr} {c4 : Nat} {A3 : Option Addr} {c3 : Nat} {Al : Option Addr} {cl : Nat} {v15 : Value} {B1 : Nat} {w6 w' : World} (h : F6 w w2 bx b11 b3 br left x A4 c4 A3 c3 Al cl v15 B1 w6) (hb : Below w6.heap.size w6 w') : F6 w w2 bx b11 b3 br left x A4 c4 A3 c3 Al cl v15 B1 w' :=
  ⟨h.st.keep hb, below_then h.bel2 h.bel2.size hb, below_then h.belw h.belw.size hb, blk_below h.rbox hb, Kd.C_below h.rrd hb, h.rcap, h.xbox.keep hb, Kd.R_below h.xown hb, h.xhi, Kd.R_below h.fr hb, h.nb, h.far, h.b11lt, h.bxlt⟩
/-- The first feeding and the writing over, put together. -/
theorem F6_mk {w w2 wr w1 w3 w4 w5 w6 : World} {bx b11 b3 g1 : Nat} {br : Bool} {left x : List Int} {A : Option Addr} {c : Nat} {A4 : Option Addr} {c4 : Nat} {A3 : Option Addr} {c3 : Nat} {Al : Option Addr} {cl : Nat} {v15 : Value}
    (H : FT w w2 bx b11 br left A c Al cl wr) (hb1 : Below wr.heap.size wr w1) (hg1 : wr.heap.size ≤ g1) (hg1l : g1 < w1.heap.size) (hb3 : Below w1.heap.size w1 w3) (hx : RB w3 b3 br A3 left.length c3) (hxR : Kd.R ku8 5 w3 w1.heap.size (fun k => True ∧ k ≠ b3) (.slice A3 left.length c3) left) (hb3h : w1.heap.size ≤ b3)
    (hst : St w2.heap.size bx ([], (refS br left x).2) (.slice none 0 0) A4 c4 w4) (hels : Else w3 w4 bx (fun k => some k = Value.ownBlock (.slice A left.length c))) (hbel : Below w2.heap.size w2 w4) (hfr : Kd.R k27 27 w4 w3.heap.size (fun _ => True) v15 (refS br left x).1) (hown4 : ∀ k, Value.ownBlock (.slice A4 (refS br left x).2.2.length c4) = some k → w3.heap.size ≤ k)
    (hd : Drawn0 w4 w5) (hg : w5.grownBy w6 (some g1)) (hw2 : w.heap.size ≤ w2.heap.size) (hbw : Below w.heap.size w w2) : F6 w w2 bx b11 b3 br left x A4 c4 A3 c3 Al cl v15 w1.heap.size w6 := by
  have hbx := H.st.box.lt
  have hb11 := blk_lt H.rbox
  have hz1 := hb1.size
  have hz3 := hb3.size
  have hz4 := hels.1
  have hz5 := hd.below.size
  -- what is old, and no place of the reader's or of the lent list's, is as it was
  have hold : ∀ k, k < wr.heap.size → k ≠ bx → some k ≠ Value.ownBlock (.slice A left.length c) → w6.heap[k]? = wr.heap[k]? := fun k hk h1 h2 => by
    rw [hg.block k (by omega) (fun he => by injection he; omega), hd.below.block k (by omega), hels.2 k (by omega) h1 h2, hb3.block k (by omega), hb1.block k hk]
  have hownlt : ∀ k, Value.ownBlock (.slice A left.length c) = some k → k < wr.heap.size := Kd.R_lt H.st.left
  have hmid : ∀ k, w1.heap.size ≤ k → k < w3.heap.size → w6.heap[k]? = w3.heap[k]? := fun k h1 h2 => by
    rw [hg.block k (by omega) (fun he => by injection he; omega), hd.below.block k (by omega), hels.2 k h2 (by omega) (fun he => by have := hownlt k he.symm; omega)]
  have h46 : ∀ k, k < w4.heap.size → k ≠ g1 → w6.heap[k]? = w4.heap[k]? := fun k h1 h2 => by
    rw [hg.block k (by omega) (fun he => h2 (by injection he)), hd.below.block k h1]
  have hst6 : St w2.heap.size bx ([], (refS br left x).2) (.slice none 0 0) A4 c4 w6 := hst.other (fun k hk hor => h46 k hk (by
    rcases hor with rfl | h
    · omega
    · have := hown4 k h.symm; omega))
  have hk6 : ∀ B w0, B ≤ wr.heap.size → Below B w0 w4 → Below B w0 w6 := fun B w0 hB h => ⟨hg.os.trans (hd.below.os.trans h.os), hg.tape.trans (hd.below.tape.trans h.tape), hg.output.trans (hd.below.output.trans h.output), by have := h.size; have := hg.size; omega, fun k hk => (h46 k (by omega) (by omega)).trans (h.block k hk)⟩
  have hw2r := H.bel2.size
  have hbel6 : Below w2.heap.size w2 w6 := hk6 _ _ hw2r hbel
  have hbw6 : Below w.heap.size w w6 := ⟨hbel6.os.trans hbw.os, hbel6.tape.trans hbw.tape, hbel6.output.trans hbw.output, by have := hbel6.size; omega, fun k hk => (hbel6.block k (by omega)).trans (hbw.block k hk)⟩
  have hb3l : b3 < w3.heap.size := hx.lt
  refine ⟨hst6, hbel6, hbw6, (hold b11 hb11 H.nb.1 H.nb.2).trans H.rbox, C_blk H.rrd (fun ad e hp => hold ad.block (C_blt H.rrd e hp) (H.rap ad e hp).1 (H.rap ad e hp).2), H.rcap, (hmid b3 hb3h hb3l).trans hx, ?_, hb3h, ?_, ⟨H.nb.1, fun he => ?_⟩, fun k hk => ⟨by have := hown4 k hk; omega, fun he => by have h1 := hown4 k hk; have h2 := Kd.R_lt hxR k he.symm; omega⟩, by omega, by omega⟩
  · exact Kd.R_mono (Kd.R_step (Kd.R_bound hxR) (fun k hk hlt => hmid k hk.2.1 hlt)) (fun k hk => hk.1)
  · exact Kd.R_mono (Kd.R_lower (Kd.R_step (Kd.R_bound hfr) (fun k hk hlt => h46 k hlt (by have := hk.2.1; omega))) (Nat.zero_le _)) (fun k hk => hk.1)
  · have := hown4 b11 he.symm; omega
/-- What the document's reader's Feed has left. -/
structure RF (N : Nat) (fs : List Fr) (br : Bool) (left : List Int) (A : Option Addr) (c : Nat) (Av : Option Addr) (cv : Nat) (w : World) : Prop where
  l : Kd.C ku8 w A left.length left
  lc : left.length ≤ c
  f : Kd.R k27 27 w N (fun _ => True) (.slice Av fs.length cv) fs
  ap : br = false → ∀ ad, A = some ad → 0 < left.length → N ≤ ad.block
theorem RF.keep {N : Nat} {fs : List Fr} {br : Bool} {left : List Int} {A : Option Addr} {c : Nat} {Av : Option Addr} {cv : Nat} {w w' : World} (h : RF N fs br left A c Av cv w) (hb : Below w.heap.size w w') : RF N fs br left A c Av cv w' := ⟨Kd.C_below h.l hb, h.lc, Kd.R_below h.f hb, h.ap⟩
theorem RF.low {N M : Nat} {fs : List Fr} {br : Bool} {left : List Int} {A : Option Addr} {c : Nat} {Av : Option Addr} {cv : Nat} {w : World} (h : RF N fs br left A c Av cv w) (hb : M ≤ N) : RF M fs br left A c Av cv w := ⟨h.l, h.lc, Kd.R_lower h.f hb, fun e ad he hp => Nat.le_trans hb (h.ap e ad he hp)⟩
theorem RF.set {N : Nat} {fs : List Fr} {br : Bool} {left : List Int} {A : Option Addr} {c : Nat} {Av : Option Addr} {cv : Nat} {w : World} {b : Nat} {old : Array Value} (h : RF N fs br left A c Av cv w) (hb : w.heap[b]? = some (.cells old 47 (0, 0))) (hA : ∀ ad, A = some ad → 0 < left.length → ad.block ≠ b) (cs : Array Value) : RF N fs br left A c Av cv (w.setRow b cs) := by
  have hne : ∀ ad, A = some ad → 0 < left.length → ad.block ≠ b := hA
  refine ⟨C_blk h.l (fun ad e hp => setRow_other _ _ _ _ (hne ad e hp)), h.lc, Kd.R_mono (Kd.R_step (Kd.R_types h.f hb (by decide)) (fun k hk _ => setRow_other _ _ _ _ hk.2)) (fun _ _ => trivial), h.ap⟩
/-- Behind the copy's feeding: the reader, the document's reader of the next round. -/
structure F10 (w w2 : World) (bx b11 b18 : Nat) (fs : List Fr) (br : Bool) (left : List Int) (A4 : Option Addr) (c4 : Nat) (A7 : Option Addr) (c7 : Nat) (Av : Option Addr) (cv N : Nat) (W : World) : Prop where
  st : St w2.heap.size bx ([], br, left) (.slice none 0 0) A4 c4 W
  bel2 : Below w2.heap.size w2 W
  belw : Below w.heap.size w W
  rbox : ∃ old, old.size = 2 ∧ W.heap[b11]? = some (.cells old 47 (0, 0))
  box18 : W.heap[b18]? = some (.cells #[.slice A7 left.length c7, .bool br] 47 (0, 0))
  rf : RF N fs br left A7 c7 Av cv W
  ne : b18 ≠ b11
  nb : b11 ≠ bx ∧ some b11 ≠ Value.ownBlock (.slice A4 left.length c4)
  ap : ∀ ad, A7 = some ad → 0 < left.length → ad.block ≠ bx ∧ some ad.block ≠ Value.ownBlock (.slice A4 left.length c4)
  n11 : b11 < N
theorem F10.keep {w w2 : World} {bx b11 b18 : Nat} {fs : List Fr} {br : Bool} {left : List Int} {A4 : Option Addr} {c4 : Nat} {A7 : Option Addr} {c7 : Nat} {Av : Option Addr} {cv N : Nat} {W W' : World} (h : F10 w w2 bx b11 b18 fs br left A4 c4 A7 c7 Av cv N W) (hb : Below W.heap.size W W') : F10 w w2 bx b11 b18 fs br left A4 c4 A7 c7 Av cv N W' := by
  obtain ⟨old, hs, ho⟩ := h.rbox
  exact ⟨h.st.keep hb, below_then h.bel2 h.bel2.size hb, below_then h.belw h.belw.size hb, ⟨old, hs, blk_below ho hb⟩, blk_below h.box18 hb, h.rf.keep hb, h.ne, h.nb, h.ap, h.n11⟩
theorem F10_mk {w w2 w6 w9 w10 : World} {bx b11 b3 b18 : Nat} {br : Bool} {left x : List Int} {A4 : Option Addr} {c4 : Nat} {A3 : Option Addr} {c3 : Nat} {Al : Option Addr} {cl : Nat} {v15 : Value} {B1 : Nat} {fs : List Fr} {br' : Bool} {left' : List Int} {A7 : Option Addr} {c7 : Nat} {Av : Option Addr} {cv : Nat}
    (H6 : F6 w w2 bx b11 b3 br left x A4 c4 A3 c3 Al cl v15 B1 w6) (H9 : F6 w w2 bx b11 b3 br left x A4 c4 A3 c3 Al cl v15 B1 w9) (hF : (fs, br', left') = refS br left x) (hb18 : w6.heap.size ≤ b18) (h18 : w9.heap[b18]? = some (.cells #[.slice A7 left'.length c7, .bool br'] 47 (0, 0))) (hrf : RF w6.heap.size fs br' left' A7 c7 Av cv w9) (hbl : br' = true → left' = [])
    (hbel : ∀ B w0, B ≤ B1 → Below B w0 w9 → Below B w0 w10) (hels : Else w9 w10 b3 (fun k => some k = Value.ownBlock (.slice A3 left.length c3))) (hw2 : w.heap.size ≤ w2.heap.size) : F10 w w2 bx b11 b18 fs br' left' A4 c4 A7 c7 Av cv w6.heap.size w10 := by
  have hb3 := H6.xbox.lt
  have hbx := H6.st.box.lt
  have hb11 := blk_lt H6.rbox
  have ho3 := Kd.R_lt H6.xown
  have ho4 := Kd.R_lt H6.st.left
  have ho3b := Kd.R_base H6.xown
  have hhi := H6.st.hi
  have hxh := H6.xhi
  have hbxl := H6.bxlt
  have hb11l := H6.b11lt
  have hnew : ∀ k, w6.heap.size ≤ k → k < w9.heap.size → w10.heap[k]? = w9.heap[k]? := fun k hk hlt => hels.2 k hlt (by omega) (fun he => by have := ho3 k he.symm; omega)
  have hlo : ∀ k, k < B1 → k < w9.heap.size → w10.heap[k]? = w9.heap[k]? := fun k hk hlt => hels.2 k hlt (by omega) (fun he => by have := ho3b k he.symm; omega)
  have hst : St w2.heap.size bx ([], (refS br left x).2) (.slice none 0 0) A4 c4 w10 := H9.st.other (fun k hk hor => by
    rcases hor with rfl | h
    · exact hlo _ hbxl hk
    · exact hels.2 k hk (H9.far k h.symm).1 (H9.far k h.symm).2)
  have hap : ∀ ad, A7 = some ad → 0 < left'.length → w6.heap.size ≤ ad.block := fun ad e hp => by
    cases hbr : br' with
    | true => rw [hbl hbr] at hp; cases hp
    | false => exact hrf.ap hbr ad e hp
  have hnb := H6.nb
  rw [← hF] at hst hnb ho4
  refine ⟨hst, hbel _ _ (by omega) H9.bel2, hbel _ _ (by omega) H9.belw, ⟨_, rfl, (hlo b11 hb11l (blk_lt H9.rbox)).trans H9.rbox⟩, (hnew b18 hb18 (blk_lt h18)).trans h18, ⟨C_blk hrf.l (fun ad e hp => hnew _ (hap ad e hp) (C_blt hrf.l e hp)), hrf.lc, Kd.R_mono (Kd.R_step (Kd.R_bound hrf.f) (fun k hk hlt => hnew k hk.2.1 hlt)) (fun _ _ => trivial), hrf.ap⟩, by omega, hnb, fun ad e hp => ⟨by have := hap ad e hp; omega, fun he => by have h1 := hap ad e hp; have h2 := ho4 _ he.symm; omega⟩, hb11⟩
/-- The round's end: the document's reader is put in its box. -/
theorem FT_mk {w w2 W : World} {bx b11 b18 : Nat} {fs : List Fr} {br : Bool} {left : List Int} {A4 : Option Addr} {c4 : Nat} {A7 : Option Addr} {c7 : Nat} {Av : Option Addr} {cv N : Nat} (H : F10 w w2 bx b11 b18 fs br left A4 c4 A7 c7 Av cv N W) (hi : w2.heap.size ≤ b11) (hw2 : w.heap.size ≤ w2.heap.size) (lb : Bytes left) (ll : left.length < 65544) (brl : br = true → left = []) :
    FT w w2 bx b11 br left A4 c4 A7 c7 (W.setRow b11 #[.slice A7 left.length c7, .bool br]) := by
  obtain ⟨old, hs, ho⟩ := H.rbox
  have hoth : ∀ k, k ≠ b11 → (W.setRow b11 #[.slice A7 left.length c7, .bool br]).heap[k]? = W.heap[k]? := fun k hk => setRow_other _ _ _ _ hk
  refine ⟨H.st.other (fun k hk hor => hoth k (by
    rcases hor with rfl | h
    · exact fun e => H.nb.1 e.symm
    · intro e
      subst e
      exact H.nb.2 h)), below_setRow H.bel2 hi _, below_setRow H.belw (by omega) _, setRow_heap _ _ _ _ _ _ ho, C_blk H.rf.l (fun ad e hp => hoth _ (fun he => ?_)), H.rf.lc, H.ap, H.nb, hi, lb, ll, brl⟩
  cases hbr : br with
  | true => rw [brl hbr] at hp; cases hp
  | false => have h1 := H.rf.ap hbr ad e hp; have h2 := H.n11; omega
end Go.Proofs.Ytajlmjmhkhdmdaa.PF
