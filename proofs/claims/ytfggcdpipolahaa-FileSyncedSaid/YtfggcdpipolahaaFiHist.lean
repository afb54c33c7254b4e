/- The states since the last sync: a row of three texts each. -/
import Derived.Test.YtfggcdpipolahaaFiEq3
set_option linter.unusedVariables false
set_option linter.unusedSimpArgs false
namespace Go.Proofs.Ytfggcdpipolahaa.PF
open Go.RowKit Go.Proofs.YtfggcdpipolahaaW.PrintWords Go.Proofs.YtfggcdpipolahaaW.PrintLast Go.Proofs.YtfggcdpipolahaaW.PrintMore
abbrev k3 : Kd Fs := Kd.iso (Kd.pair Kd.string (Kd.pair Kd.string Kd.string)) (fun x : Fs => (strOfNums x.a, strOfNums x.b, strOfNums x.c))
def Fs.cells (x : Fs) : List Value := [.string (strOfNums x.a), .string (strOfNums x.b), .string (strOfNums x.c)]
theorem k3_M (w : World) (base : Nat) (ok : Nat → Prop) (x : Fs) : k3.M w base ok x x.cells := ⟨[_], [_, _], rfl, rfl, [_], [_], rfl, rfl, rfl⟩
theorem k3_K {w : World} {x : Fs} {cs : List Value} (h : k3.K w x cs) : cs = x.cells := by
  obtain ⟨c0, c1, rfl, h2, c2, c3, rfl, h3, h4⟩ := h
  obtain rfl : c0 = [.string (strOfNums x.a)] := h2
  obtain rfl : c2 = [.string (strOfNums x.b)] := h3
  obtain rfl : c3 = [.string (strOfNums x.c)] := h4
  rfl
theorem info3z : (Try.prog.info? 38).map (fun i => (i.zero, i.size, i.bytes)) = some (some (.agg #[.string ⟨#[]⟩, .string ⟨#[]⟩, .string ⟨#[]⟩]), 3, 48) := by kernel_rfl
theorem one3_R (W : World) (base : Nat) (hb : base ≤ W.heap.size) (x : Fs) : Kd.R k3 38 (W.alloc (.cells x.cells.toArray 38)) base (fun _ => True) (.slice (some ⟨W.heap.size, 0, none⟩) 1 1) [x] := by
  refine ⟨fun _ _ => trivial, ?_⟩
  have h : Reps (k3.M (W.alloc (.cells x.cells.toArray 38)) base (fun k => True ∧ some k ≠ (Value.slice (some ⟨W.heap.size, 0, none⟩) 1 1).ownBlock)) 3 [x] ([] ++ x.cells) := Reps.snoc (Reps.none _ _) (k3_M _ _ _ _) rfl
  exact OwnRow.lit W base h hb (by show 1 ≤ 9223372036854775807; decide)
theorem R_keptT {α : Type} {d : Kd α} {e base : Nat} {w w' : World} {ok : Nat → Prop} {v : Value} {xs : List α} (hE : d.E = []) (h1 : e ≠ 69) (h2 : e ≠ 77) (h : d.R e w base ok v xs) (hk : KeptT w w') : d.R e w' base ok v xs := by
  refine Kd.R_mono (Kd.R_move (Kd.R_bound h) (fun k ho => ?_)) (fun _ ho => ho.1)
  obtain ⟨_, _, _, q, hq, cells, hc⟩ := ho
  rw [hE] at hq
  simp at hq
  subst hq
  rw [hc]
  exact hk _ _ _ h1 h2 hc
/-- The files behind each beginning of the operations. -/
def Fs.hist (x : Fs) : List AOp → List Fs
  | [] => [x]
  | o :: os => x :: Fs.hist (x.done o o.data.length) os
theorem hist_length : ∀ (os : List AOp) (x : Fs), (x.hist os).length = os.length + 1
  | [], _ => rfl
  | o :: os, x => by
    show (Fs.hist (x.done o o.data.length) os).length + 1 = _
    rw [hist_length os]
    rfl
theorem hist_snoc (o : AOp) : ∀ (os : List AOp) (x : Fs), x.hist (os ++ [o]) = x.hist os ++ [(x.play os).done o o.data.length]
  | [], _ => rfl
  | p :: os, x => by
    show x :: Fs.hist (x.done p p.data.length) (os ++ [o]) = x :: Fs.hist (x.done p p.data.length) os ++ _
    rw [hist_snoc o os (x.done p p.data.length)]
    rfl
theorem hist_at : ∀ (os : List AOp) (x : Fs) (j : Nat), j ≤ os.length → (x.hist os)[j]? = some (x.play (os.take j))
  | [], _, 0, _ => rfl
  | [], _, j + 1, h => by simp at h
  | o :: os, x, 0, _ => rfl
  | o :: os, x, j + 1, h => hist_at os (x.done o o.data.length) j (by simpa using h)
theorem crash_at : ∀ (os : List AOp) (x : Fs) (k t : Nat) (o : AOp), os[k]? = some o → x.crash os k t = if o.cut = true then x.play (os.take k) else (x.play (os.take k)).done o t
  | [], _, _, _, _, h => by simp at h
  | p :: os, x, 0, t, o, h => by
    simp at h
    subst h
    rfl
  | p :: os, x, k + 1, t, o, h => crash_at os (x.done p p.data.length) k t o (by simpa using h)
theorem play_next : ∀ (os : List AOp) (x : Fs) (k : Nat) (o : AOp), os[k]? = some o → x.play (os.take (k + 1)) = (x.play (os.take k)).done o o.data.length
  | [], _, _, _, h => by simp at h
  | p :: os, x, 0, o, h => by
    simp at h
    subst h
    rfl
  | p :: os, x, k + 1, o, h => play_next os (x.done p p.data.length) k o (by simpa using h)
theorem valid_at : ∀ (os : List AOp) (x : Fs) (k : Nat) (o : AOp), Valid x os → os[k]? = some o → o.Ok (x.play (os.take k))
  | [], _, _, _, _, h => by simp at h
  | p :: os, x, 0, o, v, h => by
    simp at h
    subst h
    exact v.1
  | p :: os, x, k + 1, o, v, h => valid_at os (x.done p p.data.length) k o v.2 (by simpa using h)
/-- A law's own row is written. -/
theorem Disks.over {w0 w w1 : World} {ok : Nat → Prop} {F : Nat → Option ADk} {n : Nat} (h : Disks w0 w ok F n) {α : Type} {d' : Kd α} {e' base : Nat} {ok1 : Nat → Prop} {v : Value} {ys : List α} (hv : d'.R e' w base ok1 v ys) (h1 : 69 ≠ e') (h2 : 77 ≠ e') (h3 : 5 ≠ e') (hg : w.grownBy w1 v.ownBlock) (hb : Below w0.heap.size w0 w1) : Disks w0 w1 ok F n := by
  obtain ⟨hb0, D, RS, ho, hd⟩ := h
  have hv0 : d'.R e' w 0 ok1 v ys := Kd.R_lower hv (Nat.zero_le _)
  refine ⟨hb, D, RS, fun b a e => ?_, hd⟩
  have hm := (ho b a e).mem
  have f : ∀ t y, By ok w t y → By ok w1 t y := fun t y k => k.over hv0 h3 hg
  exact ⟨⟨(hg.block b (blk_lt hm.box) (Kd.R_ne hv0 hm.box (fun e => h1 e.symm))).trans hm.box, hm.now.map f, hm.safe.map f, Kd.R_over hm.ops hv0 (by intro q hq; simp [Kd.pair, Kd.int, Kd.bool, Kd.scalar] at hq; rw [hq]; exact h2) hg, hm.rel.map f, hm.down, hm.arm, hm.fail, hm.wth⟩, (ho b a e).good, (ho b a e).box, (ho b a e).ops⟩
structure SW (w : World) (b i : Nat) (F : Nat → Option ADk) (a : ADk) (v : Value) (wr : World) : Prop where
  dk : Disks w wr (fun _ => True) F i
  at_ : F b = some a
  quiet : Quiet a
  small : Small (50 * i) a.now
  hist : Kd.R k3 38 wr w.heap.size (fun _ => True) v (a.safe.hist a.ops)
theorem SW.push {w w5 w6 : World} {b i : Nat} {F : Nat → Option ADk} {a a' : ADk} {o : AOp} {v v1 : Value} {n : Nat} (hg : Good n a) (hst : Step a a' o) (hs : Small (50 * (i + 1)) a'.now) (hD : Disks w w5 (fun _ => True) F (i + 1)) (hF : F b = some a') (hR : Kd.R k3 38 w5 w.heap.size (fun _ => True) v (a.safe.hist a.ops)) (hR1 : Kd.R k3 38 w6 w.heap.size (fun _ => True) v1 (a.safe.hist a.ops ++ [a'.now])) (hgr : w5.grownBy w6 v.ownBlock) (hb : Below w.heap.size w w6) : SW w b (i + 1) F a' v1 w6 :=
  ⟨hD.over hR (by decide) (by decide) (by decide) hgr hb, hF, hst.quiet, hs, by rw [hst.safe, hst.ops, hist_snoc, ← hg.now, ← hst.now]; exact hR1⟩
set_option maxRecDepth 100000 in
/-- The row of states: each is loaded at once, or by its texts. -/
theorem hist_row {W : World} {base : Nat} {ok : Nat → Prop} {A : Option Addr} {n c : Nat} {l : List Fs} (h : Kd.R k3 38 W base ok (.slice A n c) l) (hp : 0 < l.length) : ∃ ad, A = some ad ∧ ∀ (j : Nat) (x : Fs), l[j]? = some x → (∀ W', Below W.heap.size W W' → (Instr.loadAt 38 (.pointer (some (ad.add (j * 3))))).run Try.prog W' = .ok (.agg #[.string (strOfNums x.a), .string (strOfNums x.b), .string (strOfNums x.c)]) W') ∧ (∀ W', Below W.heap.size W W' → ∀ f : Nat, f < 3 → W'.cell? ((ad.add (j * 3)).add f) = some (.string (strOfNums (x.get f)))) := by
  obtain ⟨g, cap, he, _, _, _⟩ := Kd.R_form h hp
  injection he with hA hn hc
  subst hA
  refine ⟨⟨g, 0, none⟩, rfl, fun j x hj => ?_⟩
  obtain ⟨hl, hx⟩ := List.getElem?_eq_some_iff.1 hj
  have hC := (Kd.R_reads' h).2.2
  constructor
  · obtain ⟨ad, cs, hA, hK, hld⟩ := Gen.load_mid (t := 38) Try.underlying38 rfl info3s hC j hl
    injection hA with hA
    subst hA
    rw [hx] at hK
    obtain rfl := k3_K hK
    exact hld
  · intro W' hW f hf
    obtain ⟨ad, cs, hA, hlen, hK, hcell⟩ := Gen.C_at hC j hl
    injection hA with hA
    subst hA
    rw [hx] at hK
    obtain rfl := k3_K hK
    have h1 : x.cells[f]? = some (.string (strOfNums (x.get f))) := by
      match f, hf with
      | 0, _ => rfl
      | 1, _ => rfl
      | 2, _ => rfl
    have h2 := hcell f _ h1
    have h3 : ((⟨g, 0, none⟩ : Addr).add (j * k3.sz + f)) = ((⟨g, 0, none⟩ : Addr).add (j * 3)).add f := by
      rw [add_plain, add_plain, Addr.add_mid]
      rfl
    rw [h3] at h2
    exact (hW.cell (World.block_lt_of_cell? W _ h2)).trans h2
end Go.Proofs.Ytfggcdpipolahaa.PF
