/- Bytes that come in pieces, all fed to one reader (fed). -/
import Derived.Test.YtajlmjmhkhdmdaaFrAwake
set_option linter.unusedVariables false
set_option linter.unusedSimpArgs false
namespace Go.Proofs.Ytajlmjmhkhdmdaa.PF
open Go.RowKit Go.Proofs.YtajlmjmhkhdmdaaW.PrintWords Go.Proofs.YtajlmjmhkhdmdaaW.PrintLast Go.Proofs.YtajlmjmhkhdmdaaW.PrintMore
attribute [local go_sem] max2_int min2_int max_two min_two
abbrev Fs := List Fr × Bool × List Int
def feedS (F : Fs) (x : List Int) : Fs := if F.2.1 = true then F else (F.1 ++ (feedF (F.2.2 ++ x)).1, (feedF (F.2.2 ++ x)).2)
theorem feedS_of (p x : List Int) (hp : Bytes p) : feedF (p ++ x) = feedS (feedF p) x := feed_append p.length p x (Nat.le_refl _) hp
/-- The reader's box, what is left, the frames so far. -/
structure St (B0 : Nat) (bx : Nat) (F : Fs) (v8 : Value) (A : Option Addr) (c : Nat) (wr : World) : Prop where
  box : RB wr bx F.2.1 A F.2.2.length c
  nil_ : F.2.1 = true → A = none ∧ c = 0
  apart : ∀ k, Value.ownBlock (.slice A F.2.2.length c) = some k → k ≠ bx
  left : Kd.R ku8 5 wr B0 (fun k => some k = Value.ownBlock (.slice A F.2.2.length c)) (.slice A F.2.2.length c) F.2.2
  out : Kd.R k27 27 wr B0 (fun k => k ≠ bx ∧ some k ≠ Value.ownBlock (.slice A F.2.2.length c)) v8 F.1
  hi : B0 ≤ bx
theorem St.keep {B0 bx : Nat} {F : Fs} {v8 : Value} {A : Option Addr} {c : Nat} {w1 w2 : World} (h : St B0 bx F v8 A c w1) (hb : Below w1.heap.size w1 w2) : St B0 bx F v8 A c w2 :=
  ⟨h.box.keep hb, h.nil_, h.apart, Kd.R_below h.left hb, Kd.R_below h.out hb, h.hi⟩
/-- An int row, of its own block alone. -/
theorem own_R {w : World} {base : Nat} {ok : Nat → Prop} {v : Value} {l : List Int} (h : Kd.R ku8 5 w base ok v l) : Kd.R ku8 5 w base (fun k => some k = v.ownBlock) v l :=
  ⟨fun k hk => hk.symm, h.2.imp_ (fun _ _ hp => hp)⟩
/-- What a feeding leaves: the new frames beside those so far. -/
def FedSt (w0 w : World) (bx : Nat) (F : Fs) (v8 : Value) (x : List Int) (e : Ending) (w' : World) : Prop :=
  ∃ v ys A' c', e = .returned (.tuple #[v, .int .i64 (if (feedS F x).2.1 = true then 30 else 0)]) ∧ (feedS F x).1 = F.1 ++ ys ∧ St w0.heap.size bx (F.1, (feedS F x).2) v8 A' c' w' ∧
    Kd.R k27 27 w' w.heap.size (fun k => k ≠ bx ∧ some k ≠ Value.ownBlock (.slice A' (feedS F x).2.2.length c')) v ys ∧ Below w0.heap.size w0 w'
theorem feed_st {w0 w : World} {bx : Nat} {F : Fs} {v8 : Value} {A : Option Addr} {c : Nat} (h : St w0.heap.size bx F v8 A c w) (hB0 : Below w0.heap.size w0 w) (x : List Int) (B : Option Addr) (cx : Nat) (hx : Kd.C ku8 w B x.length x) (hcx : x.length ≤ cx) (hl : Bytes F.2.2) (hxb : Bytes x) (hlen : F.2.2.length + x.length ≤ 4398046511104) :
    Calls Try.prog 10 #[.pointer (some ⟨bx, 0, none⟩), .slice B x.length cx] w (FedSt w0 w bx F v8 x) := by
  by_cases hbr : F.2.1 = true
  · obtain ⟨rfl, rfl⟩ := h.nil_ hbr
    have hbx := h.box
    rw [hbr] at hbx
    refine (feed_broken hbx B x.length cx).mono ?_
    rintro e w' ⟨rfl, rfl⟩
    have e1 : feedS F x = F := by unfold feedS; rw [if_pos hbr]
    refine ⟨.slice none 0 0, [], none, 0, by rw [e1, if_pos hbr], by rw [e1]; simp, ?_, Kd.R_nil _ _ _ _ _, hB0⟩
    rw [e1]
    exact h
  · have hbf : F.2.1 = false := by simpa using hbr
    have hbx := h.box
    rw [hbf] at hbx
    have e1 : feedS F x = (F.1 ++ (feedF (F.2.2 ++ x)).1, (feedF (F.2.2 ++ x)).2) := by unfold feedS; rw [if_neg hbr]
    refine (feed_calls bx A c F.2.2 x (F.2.2 ++ x) rfl B cx w w0.heap.size _ hbx h.left (fun k hk => h.apart k hk.symm) h.hi hx hcx hl hxb hlen).mono ?_
    rintro e w' ⟨v, A', c', g, rfl, hg, hv, hbx', hnil, hleft, hels, hbel⟩
    have hlb := Kd.R_base hleft
    have hbg : bx < g := Nat.lt_of_lt_of_le h.box.lt hg
    refine ⟨v, (feedF (F.2.2 ++ x)).1, A', c', by rw [e1], by rw [e1], ?_, ?_, hbel _ w0 (Nat.le_refl _) hB0⟩
    · rw [e1]
      refine ⟨hbx', hnil, fun k hk => by have := hlb k hk; omega, Kd.R_lower (own_R hleft) (Nat.le_trans hB0.size hg), ?_, h.hi⟩
      have h1 := Kd.R_step (Kd.R_bound h.out) (w1 := w') (fun k hk hlt => hels.2 k hlt hk.1.1 (fun he => hk.1.2 he))
      exact Kd.R_mono h1 (fun k hk => ⟨hk.1.1, fun he => by have := hlb k he.symm; have := hk.2.2.1; omega⟩)
    · rw [e1]
      exact Kd.R_mono (Kd.R_bound hv) (fun k hk => ⟨by have := hk.2.1; have := h.box.lt; omega, fun he => by have := hlb k he.symm; have := hk.1; omega⟩)
theorem rows_M {w3 : World} {B0 B1 : Nat} {ok : Nat → Prop} {ys : List Fr} {A : Option Addr} {c : Nat} (hv : Kd.R k27 27 w3 B1 ok (.slice A ys.length c) ys) (hB : B0 ≤ B1) :
    ReadsRow (k27.M w3 B0 (fun k => ok k ∧ B1 ≤ k)) k27.sz w3 A ys.length ys := by
  obtain ⟨A', c', he, hl, hr⟩ := OwnRow.reads hv.2
  injection he with h1 h2 h3
  subst h1
  exact hr.imp_ (Below.refl _ _) (fun x cs hp => k27.M_lower hB (k27.M_mono (fun k hk => ⟨hk.1.1, hk.2.1⟩) (k27.M_bound hp)))
theorem St.append {B0 bx : Nat} {f1 fn : List Fr} {F2 : Bool × List Int} {v8 v9 : Value} {A : Option Addr} {c : Nat} {w3 w4 : World} (h : St B0 bx (f1, F2) v8 A c w3) (hg : w3.grownBy w4 v8.ownBlock)
    (ho : Kd.R k27 27 w4 B0 (fun k => k ≠ bx ∧ some k ≠ Value.ownBlock (.slice A F2.2.length c)) v9 fn) : St B0 bx (fn, F2) v9 A c w4 :=
  ⟨blk_grown h.box hg (fun he => (h.out.1 bx he.symm).1 rfl), h.nil_, h.apart, Kd.R_grown h.left hg (fun k hk he => (h.out.1 k he.symm).2 hk), ho, h.hi⟩
end Go.Proofs.Ytajlmjmhkhdmdaa.PF
