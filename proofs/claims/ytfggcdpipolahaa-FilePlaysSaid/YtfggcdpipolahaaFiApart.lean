/- Rows of bytes of their own are told to share no memory. -/
import Derived.Test.YtfggcdpipolahaaFiMem
import Derived.Test.YtfggcdpipolahaaWTab
import Derived.Deep.Upon
import Derived.Maps.AppendAt
set_option linter.unusedVariables false
set_option linter.unusedSimpArgs false
namespace Go.Proofs.Ytfggcdpipolahaa.PF
open Go.RowKit Go.Proofs.YtfggcdpipolahaaW.PrintWords Go.Proofs.YtfggcdpipolahaaW.PrintLast Go.Proofs.YtfggcdpipolahaaW.PrintMore
attribute [local go_sem] max2_int min2_int max_two min_two
def mkB (k i : Int) : Int := IntKind.u64.wrap (IntKind.u64.wrap (wrap64 (wrap64 (1000003 * wrap64 (k + 7)) + i)) * 11400714819323198485) / 72057594037927936 % 256
theorem mark_calls (k i : Int) (w : World) : Calls Try.prog 34 #[.int .i64 k, .int .i64 i] w fun e w' => e = .returned (.int .u8 (mkB k i)) ∧ w = w' := by
  go_enter Try.func34, Try.ntmps34
  go_wp2
  go_ret
  exact ⟨rfl, rfl⟩
theorem info24 : (Try.prog.info? 24).map (fun i => (i.zero, i.size, i.bytes)) = some (some (.slice none 0 0), 1, 24) := by kernel_rfl
def sl3 (G Ln Cp : Nat → Nat) (k : Nat) : Value := .slice (some ⟨G k, 0, none⟩) (Ln k) (Cp k)
/-- The rows, as they come in. -/
structure AR (w : World) (n lb : Nat) (G Ln Cp : Nat → Nat) : Prop where
  tab : ∀ k, k < n → w.cell? ⟨lb, k, none⟩ = some (sl3 G Ln Cp k)
  tabT : ∃ cs, w.heap[lb]? = some (.cells cs 24 (0, 0))
  typ : ∀ k, k < n → ∃ cs, w.heap[G k]? = some (.cells cs 5 (0, 0)) ∧ cs.size = Cp k
  le : ∀ k, k < n → Ln k ≤ Cp k ∧ 0 < Ln k ∧ Ln k ≤ 1000000 ∧ Cp k ≤ 9223372036854775807
  inj : ∀ j k, j < n → k < n → G j = G k → j = k
abbrev AX (n : Nat) (G : Nat → Nat) : Nat → Prop := fun b => ∃ j, j < n ∧ b = G j
theorem AR.lb_ne {w : World} {n lb : Nat} {G Ln Cp : Nat → Nat} (h : AR w n lb G Ln Cp) : ¬ AX n G lb := by
  rintro ⟨j, hj, rfl⟩
  obtain ⟨cs, h1⟩ := h.tabT
  obtain ⟨cs', h2, _⟩ := h.typ j hj
  rw [h1] at h2
  injection h2 with h2
  injection h2 with _ h2 _
  exact absurd h2 (by decide)
theorem AR.tab' {w wr : World} {n lb : Nat} {G Ln Cp : Nat → Nat} (h : AR w n lb G Ln Cp) (hf : Fr w wr (AX n G)) (k : Nat) (hk : k < n) : wr.cell? ⟨lb, k, none⟩ = some (sl3 G Ln Cp k) := by
  obtain ⟨cs, h1⟩ := h.tabT
  exact (World.cell?_of_block (a := ⟨lb, k, none⟩) (hf.block lb (blk_lt h1) h.lb_ne)).trans (h.tab k hk)
structure A1 (w : World) (n gb : Nat) (G Ln Cp : Nat → Nat) (mk : Int → Int → Int) (k i : Nat) (wr : World) : Prop where
  fr : Fr w wr (AX n G)
  typ : ∀ j, j < n → ∃ cs, wr.heap[G j]? = some (.cells cs 5 (0, 0)) ∧ cs.size = Cp j
  gs : wr.heap[gb]? = some (.cells (madeCells #[.slice none 0 0] n) 24 (0, 0))
  gbn : w.heap.size ≤ gb
  fil : ∀ k' j, (k' < k ∨ k' = k ∧ j < i) → k' < n → j < Ln k' → wr.cell? ⟨G k', j, none⟩ = some (.int .u8 (mk k' j))
theorem A1.drew {w wr : World} {n gb k i : Nat} {G Ln Cp : Nat → Nat} {mk : Int → Int → Int} (h : A1 w n gb G Ln Cp mk k i wr) : A1 w n gb G Ln Cp mk k i wr.drew := ⟨h.fr.drew, h.typ, h.gs, h.gbn, h.fil⟩
theorem A1.set {w wr : World} {n gb k i lb : Nat} {G Ln Cp : Nat → Nat} {mk : Int → Int → Int} (hr : AR w n lb G Ln Cp) (h : A1 w n gb G Ln Cp mk k i wr) (hk : k < n) (hi : i < Ln k) : A1 w n gb G Ln Cp mk k (i + 1) (wr.setCell ⟨G k, i, none⟩ (.int .u8 (mk k i))) := by
  have hlt : ∀ j, j < n → G j < w.heap.size := fun j hj => by obtain ⟨cs, h1, _⟩ := hr.typ j hj; exact blk_lt h1
  obtain ⟨ck, hck, hsk⟩ := h.typ k hk
  have hle := hr.le k hk
  refine ⟨h.fr.then_ (Fr.of_grown (grown_set (b := G k) i _)) (fun b hb => .inl ⟨k, hk, by injection hb⟩), fun j hj => ?_, blk_far h.gs (by show gb ≠ G k; have := hlt k hk; have := h.gbn; omega) _, h.gbn, fun k' j hkj hk' hj => ?_⟩
  · by_cases hjk : G j = G k
    · obtain rfl := hr.inj j k hj hk hjk
      exact ⟨_, blk_set hck i _, by simpa using hsk⟩
    · obtain ⟨cs, h1, h2⟩ := h.typ j hj
      exact ⟨cs, blk_far h1 hjk _, h2⟩
  · by_cases hkk : k' = k ∧ j = i
    · obtain ⟨rfl, rfl⟩ := hkk
      rw [blk_cell (blk_set hck j _) j, Array.getElem?_setIfInBounds_self, if_pos (by omega)]
    · have h0 := h.fil k' j (by omega) hk' hj
      by_cases hjk : G k' = G k
      · obtain rfl := hr.inj k' k hk' hk hjk
        rw [blk_cell hck j] at h0
        rw [blk_cell (blk_set hck i _) j, Array.getElem?_setIfInBounds_ne (by omega)]
        exact h0
      · exact (World.cell?_of_block (a := ⟨G k', j, none⟩) (Below.heap_setCell wr ⟨G k, i, none⟩ _ (G k') hjk)).trans h0
theorem A1.next {w wr : World} {n gb k i : Nat} {G Ln Cp : Nat → Nat} {mk : Int → Int → Int} (h : A1 w n gb G Ln Cp mk k i wr) (hi : Ln k ≤ i) : A1 w n gb G Ln Cp mk (k + 1) 0 wr := ⟨h.fr, h.typ, h.gs, h.gbn, fun k' j hkj hk' hj => h.fil k' j (by
  rcases hkj with h1 | h1
  · by_cases e : k' = k
    · exact .inr ⟨e, by rw [e] at hj; omega⟩
    · exact .inl (by omega)
  · omega) hk' hj⟩
theorem append_apart {W W1 : World} {g len cap : Nat} {olds : List Value} (hc : Came W 1 (some ⟨g, 0, none⟩) g 0 len cap olds) {v : Value} {m : Nat} {ks : List Value} {r : Nat} (hown : W1.ownsRow 0 5 1 v (len + m) (olds ++ ks)) (hU : Upon W 5 1 (some ⟨g, 0, none⟩) g 0 len cap olds W1 v m ks r) (ty : TypeId) (p : Int) (hl : len + m + 1 ≤ 1000000000) :
    ∃ v' w' r', (Builtin.append_ #[24, 24] ty #[v, .slice (some ⟨W1.heap.size, 0, none⟩) 1 1]).run Try.prog (W1.alloc (.cells #[.int .u8 p] 5)) = .ok v' w' ∧ w'.ownsRow 0 5 1 v' (len + (m + 1)) (olds ++ (ks ++ [.int .u8 p])) ∧ Upon W 5 1 (some ⟨g, 0, none⟩) g 0 len cap olds w' v' (m + 1) (ks ++ [.int .u8 p]) r' ∧ W1.grownBy w' v.ownBlock ∧ (v'.ownBlock = v.ownBlock ∨ ∃ b, v'.ownBlock = some b ∧ W1.heap.size ≤ b) := by
  obtain ⟨i0, hi, hz0, hz1, hz2⟩ := info_parts Low.info8
  have hnews : ∀ j u, ([.int .u8 p] : List Value)[j]? = some u → (W1.alloc (.cells #[.int .u8 p] 5)).cell? ((⟨W1.heap.size, 0, none⟩ : Addr).add j) = some u := by
    intro j u hj
    rw [add_plain, blk_cell (blk_new W1 (.cells #[.int .u8 p] 5)) j]
    simpa using hj
  obtain ⟨v1, w1, hr1, h2, h3, _, h5⟩ := run_append_own_at (P := Try.prog) (W1.alloc (.cells #[.int .u8 p] 5)) 0 24 ty 5 i0 (.int .u8 0) 1 1 Try.underlying24 hi hz0 hz1 hz2 rfl (by decide) v (len + m) (olds ++ ks) (hown.alloc _) ⟨W1.heap.size, 0, none⟩ 1 1 [.int .u8 p] rfl hnews (by intro u hu; simp at hu; rw [hu]; rfl) (by simp only [maxLen]; omega) (by omega) (Nat.zero_le _)
  obtain ⟨v2, w2, hr2, h6⟩ := run_append_upon (P := Try.prog) hc 24 24 ty i0 (.int .u8 0) 1 Try.underlying24 hi hz0 hz1 hz2 rfl (hU.alloc hc (.cells #[.int .u8 p] 5)) (.slice (some ⟨W1.heap.size, 0, none⟩) 1 1) 1 [.int .u8 p] (Src.ofSlice (size := 1) (W1.alloc (.cells #[.int .u8 p] 5)) Try.underlying24 ⟨W1.heap.size, 0, none⟩ 1 1 _ rfl hnews (by intro u hu; simp at hu; rw [hu]; rfl)) (by simp only [maxLen]; omega) (by omega)
  rw [hr1] at hr2
  injection hr2 with e1 e2
  subst e1 e2
  refine ⟨v1, w1, _, hr1, by rw [← List.append_assoc, ← Nat.add_assoc]; exact h2, h6, World.grownBy.trans (World.grownBy_alloc W1 _ _) h3, h5.imp id (fun h => ⟨_, h, by simp⟩)⟩
theorem wl_append_apart {ops : Array Oper} {rest : List Oper} {o : Oper} {a : Act} {Q : Exit → Act → World → Prop} (hgd : o.guard = none) (s x : Operand) (ho : o.op = .call { callee := .builtin .append, args := #[s, x], argTypes := #[24, 24] })
    {W W1 : World} {g len cap : Nat} {olds : List Value} (hc : Came W 1 (some ⟨g, 0, none⟩) g 0 len cap olds) {v : Value} {m : Nat} {ks : List Value} {r : Nat} (hown : W1.ownsRow 0 5 1 v (len + m) (olds ++ ks)) (hU : Upon W 5 1 (some ⟨g, 0, none⟩) g 0 len cap olds W1 v m ks r) (p : Int) (hl : len + m + 1 ≤ 1000000000)
    (hv : a.eval s = v) (hx : a.eval x = .slice (some ⟨W1.heap.size, 0, none⟩) 1 1)
    (h : ∀ v' w' r', w'.ownsRow 0 5 1 v' (len + (m + 1)) (olds ++ (ks ++ [.int .u8 p])) → Upon W 5 1 (some ⟨g, 0, none⟩) g 0 len cap olds w' v' (m + 1) (ks ++ [.int .u8 p]) r' → W1.grownBy w' v.ownBlock → (v'.ownBlock = v.ownBlock ∨ ∃ b, v'.ownBlock = some b ∧ W1.heap.size ≤ b) → wpList Try.prog ops Q rest (a.put o.dst v') w') :
    wpList Try.prog ops Q (o :: rest) a (W1.alloc (.cells #[.int .u8 p] 5)) :=
  wpList_plain hgd fun K hK => by
    obtain ⟨v', w', r', hrun, h1, h2, h3, h4⟩ := append_apart hc hown hU o.type p hl
    unfold Oper.wp
    simp [execOp, ho, resolve, invoke, builtin, hv, hx, hrun, Result.andThen]
    exact hK _ _ (h v' w' r' h1 h2 h3 h4)
def marks (mk : Int → Int → Int) (k m : Nat) : List Value := (List.range m).map fun (j : Nat) => Value.int .u8 (mk k (j : Int))
theorem marks_length (mk : Int → Int → Int) (k m : Nat) : (marks mk k m).length = m := by unfold marks; rw [List.length_map, List.length_range]
theorem marks_at (mk : Int → Int → Int) (k m j : Nat) (hj : j < m) : (marks mk k m)[j]? = some (.int .u8 (mk k j)) := by unfold marks; rw [List.getElem?_map, List.getElem?_range hj]; rfl
theorem marks_succ (mk : Int → Int → Int) (k m : Nat) : marks mk k (m + 1) = marks mk k m ++ [.int .u8 (mk k m)] := by unfold marks; rw [List.range_succ, List.map_append]; rfl
/-- What lies behind row k is told by V. -/
structure Long (mk : Int → Int → Int) (G Ln : Nat → Nat) (gb k : Nat) (V : Value) (wr : World) : Prop where
  ex : ∃ g' c', V = .slice (some ⟨g', 0, none⟩) (Ln k + 40) c' ∧ (g' = G k ∨ gb < g' ∧ g' < wr.heap.size) ∧ ∀ j, j < Ln k + 40 → wr.cell? ⟨g', j, none⟩ = some (.int .u8 (mk k j))
structure A2 (w : World) (n gb : Nat) (G Ln Cp : Nat → Nat) (mk : Int → Int → Int) (k : Nat) (wr : World) : Prop where
  fr : Fr w wr (AX n G)
  typ : ∀ j, k ≤ j → j < n → ∃ cs, wr.heap[G j]? = some (.cells cs 5 (0, 0)) ∧ cs.size = Cp j
  fil : ∀ k' j, k' < n → j < Ln k' → wr.cell? ⟨G k', j, none⟩ = some (.int .u8 (mk k' j))
  gbn : w.heap.size ≤ gb
  gsb : ∃ cs, wr.heap[gb]? = some (.cells cs 24 (0, 0)) ∧ cs.size = n
  gs : ∀ k', k' < k → ∃ V, wr.cell? ⟨gb, k', none⟩ = some V ∧ Long mk G Ln gb k' V wr
def tails (mk : Int → Int → Int) (k L m : Nat) : List Value := (List.range m).map fun (j : Nat) => Value.int .u8 (mk k ((L + j : Nat) : Int))
theorem tails_length (mk : Int → Int → Int) (k L m : Nat) : (tails mk k L m).length = m := by unfold tails; rw [List.length_map, List.length_range]
theorem tails_succ (mk : Int → Int → Int) (k L m : Nat) : tails mk k L (m + 1) = tails mk k L m ++ [.int .u8 (mk k ((L + m : Nat) : Int))] := by unfold tails; rw [List.range_succ, List.map_append]; rfl
theorem both_at (mk : Int → Int → Int) (k L m j : Nat) (hj : j < L + m) : (marks mk k L ++ tails mk k L m)[j]? = some (.int .u8 (mk k j)) := by
  by_cases h : j < L
  · rw [List.getElem?_append_left (by rw [marks_length]; exact h), marks_at mk k L j h]
  · rw [List.getElem?_append_right (by rw [marks_length]; omega), marks_length]
    unfold tails
    rw [List.getElem?_map, List.getElem?_range (by omega)]
    show some (Value.int .u8 (mk k ((L + (j - L) : Nat) : Int))) = _
    rw [show L + (j - L) = j by omega]
structure B2 (W : World) (G Ln Cp : Nat → Nat) (mk : Int → Int → Int) (k j : Nat) (v : Value) (wr : World) : Prop where
  own : wr.ownsRow 0 5 1 v (Ln k + j) (marks mk k (Ln k) ++ tails mk k (Ln k) j)
  up : ∃ r, Upon W 5 1 (some ⟨G k, 0, none⟩) (G k) 0 (Ln k) (Cp k) (marks mk k (Ln k)) wr v j (tails mk k (Ln k) j) r
  ob : v.ownBlock = some (G k) ∨ ∃ b, v.ownBlock = some b ∧ W.heap.size ≤ b
  fr : Fr W wr (fun b => b = G k)
theorem A2.came {w W : World} {n lb gb k : Nat} {G Ln Cp : Nat → Nat} {mk : Int → Int → Int} (hr : AR w n lb G Ln Cp) (h : A2 w n gb G Ln Cp mk k W) (hk : k < n) : Came W 1 (some ⟨G k, 0, none⟩) (G k) 0 (Ln k) (Cp k) (marks mk k (Ln k)) ∧ W.ownsRow 0 5 1 (sl3 G Ln Cp k) (Ln k + 0) (marks mk k (Ln k) ++ tails mk k (Ln k) 0) := by
  obtain ⟨cs, h1, h2⟩ := h.typ k (Nat.le_refl _) hk
  have hle := hr.le k hk
  have hf := fun j hj => h.fil k j hk hj
  have hcs : ∀ j, j < Ln k → cs[j]? = some (.int .u8 (mk k j)) := fun j hj => by rw [← blk_cell h1 j]; exact hf j hj
  constructor
  · refine ⟨hle.1, fun _ => rfl, fun _ => blk_lt h1, by rw [marks_length]; omega, fun j u hj => ?_, fun j hj => ⟨?_, blk_frozen h1 _⟩⟩
    · have hjl : j < Ln k := by have := (List.getElem?_eq_some_iff.1 hj).1; rw [marks_length] at this; exact this
      rw [marks_at mk k _ j hjl] at hj
      injection hj with hj
      rw [← hj, Nat.zero_add]
      exact hf j hjl
    · rw [blk_cell h1, Array.getElem?_eq_getElem (by omega)]
      rfl
  · refine ⟨by simp [marks_length, tails_length], .inr ⟨G k, Cp k, cs, rfl, Nat.zero_le _, h1, by omega, by simp only [maxLen]; omega, by omega, ?_⟩⟩
    apply List.ext_getElem?
    intro j
    by_cases hj : j < Ln k
    · rw [List.getElem?_take, if_pos (by omega), both_at mk k _ _ j (by omega), Array.getElem?_toList]
      exact hcs j hj
    · rw [List.getElem?_eq_none (by rw [List.length_take]; omega), List.getElem?_eq_none (by simp [marks_length, tails_length]; omega)]
theorem B2.start {w W : World} {n lb gb k : Nat} {G Ln Cp : Nat → Nat} {mk : Int → Int → Int} (hr : AR w n lb G Ln Cp) (h : A2 w n gb G Ln Cp mk k W) (hk : k < n) : B2 W G Ln Cp mk k 0 (sl3 G Ln Cp k) W :=
  ⟨(h.came hr hk).2, ⟨0, Upon.start (h.came hr hk).1⟩, .inl (by simp [Value.ownBlock, sl3]), Fr.refl _ _⟩
theorem B2.step {W W1 w' : World} {G Ln Cp : Nat → Nat} {mk : Int → Int → Int} {k j r : Nat} {v v' : Value} (h : B2 W G Ln Cp mk k j v W1) (h1 : w'.ownsRow 0 5 1 v' (Ln k + (j + 1)) (marks mk k (Ln k) ++ (tails mk k (Ln k) j ++ [.int .u8 (mk k ((Ln k + j : Nat) : Int))]))) (h2 : Upon W 5 1 (some ⟨G k, 0, none⟩) (G k) 0 (Ln k) (Cp k) (marks mk k (Ln k)) w' v' (j + 1) (tails mk k (Ln k) j ++ [.int .u8 (mk k ((Ln k + j : Nat) : Int))]) r) (h3 : W1.grownBy w' v.ownBlock) (h4 : v'.ownBlock = v.ownBlock ∨ ∃ b, v'.ownBlock = some b ∧ W1.heap.size ≤ b) : B2 W G Ln Cp mk k (j + 1) v' w' := by
  refine ⟨by rw [tails_succ]; exact h1, ⟨r, by rw [tails_succ]; exact h2⟩, ?_, h.fr.then_ (Fr.of_grown h3) (fun b hb => ?_)⟩
  · rcases h4 with e | ⟨b, e, hb⟩
    · rw [e]; exact h.ob
    · exact .inr ⟨b, e, Nat.le_trans h.fr.size hb⟩
  · rcases h.ob with e | ⟨c, e, hc⟩
    · rw [e] at hb; injection hb with hb; exact .inl hb
    · rw [e] at hb; injection hb with hb; exact .inr (by omega)
theorem A2.next {w W wr : World} {n lb gb k : Nat} {G Ln Cp : Nat → Nat} {mk : Int → Int → Int} {v : Value} (hr : AR w n lb G Ln Cp) (h : A2 w n gb G Ln Cp mk k W) (hk : k < n) (hB : B2 W G Ln Cp mk k 40 v wr) : A2 w n gb G Ln Cp mk (k + 1) (wr.setCell ⟨gb, k, none⟩ v) := by
  have hlt : ∀ j, j < n → G j < w.heap.size := fun j hj => by obtain ⟨cs, h1, _⟩ := hr.typ j hj; exact blk_lt h1
  have hwW := h.fr.size
  have hgb := h.gbn
  obtain ⟨cg, hcg, hsg⟩ := h.gsb
  have hgbW : gb < W.heap.size := blk_lt hcg
  have hk1 := hlt k hk
  have keep : ∀ b, b < W.heap.size → b ≠ G k → b ≠ gb → (wr.setCell ⟨gb, k, none⟩ v).heap[b]? = W.heap[b]? := fun b hb h1 h2 => (Below.heap_setCell wr ⟨gb, k, none⟩ v b h2).trans (hB.fr.block b hb h1)
  have hcg' : wr.heap[gb]? = some (.cells cg 24 (0, 0)) := (hB.fr.block gb hgbW (by omega)).trans hcg
  refine ⟨(h.fr.then_ hB.fr (fun b hb => .inl ⟨k, hk, hb⟩)).then_ (Fr.of_grown (grown_set (b := gb) k v)) (fun b hb => .inr (by injection hb; omega)), fun j hj hjn => ?_, fun k' j hk' hj => ?_, hgb, ⟨_, blk_set hcg' k v, by simpa using hsg⟩, fun k' hk' => ?_⟩
  · obtain ⟨cs, h1, h2⟩ := h.typ j (by omega) hjn
    have := hlt j hjn
    exact ⟨cs, (keep (G j) (blk_lt h1) (fun e => by have := hr.inj j k hjn hk e; omega) (by omega)).trans h1, h2⟩
  · have h0 := h.fil k' j hk' hj
    have := hlt k' hk'
    by_cases hkk : k' = k
    · subst hkk
      obtain ⟨r, hU⟩ := hB.up
      have h1 := hU.old (b' := G k') (o' := j) (by omega) (fun j' _ ⟨_, e⟩ => by omega)
      exact (World.cell?_of_block (a := ⟨G k', j, none⟩) (Below.heap_setCell wr ⟨gb, k', none⟩ v (G k') (by show G k' ≠ gb; omega))).trans (h1.trans h0)
    · exact (World.cell?_of_block (a := ⟨G k', j, none⟩) (keep (G k') (by omega) (fun e => hkk (hr.inj k' k hk' hk e)) (by omega))).trans h0
  · by_cases hkk : k' = k
    · subst hkk
      have hp : 0 < Ln k' + 40 := by omega
      obtain ⟨g', cap, he, _, hl⟩ := hB.own.form hp
      refine ⟨v, ?_, ⟨g', cap, he, ?_, fun j hj => ?_⟩⟩
      · rw [blk_cell (blk_set hcg' k' v) k', Array.getElem?_setIfInBounds_self, if_pos (by omega)]
      · rcases hB.ob with e | ⟨c, e, hc⟩
        · rw [he] at e; simp [Value.ownBlock] at e; exact .inl e
        · rw [he] at e; simp [Value.ownBlock] at e; exact .inr ⟨by omega, by simpa using hl⟩
      · have ho := hB.own
        rw [he] at ho
        have hc := ho.cellAt j (by omega)
        rw [both_at mk k' _ _ j hj] at hc
        have hne : g' ≠ gb := by
          rcases hB.ob with e | ⟨c, e, hc⟩
          · rw [he] at e; simp [Value.ownBlock] at e; omega
          · rw [he] at e; simp [Value.ownBlock] at e; omega
        exact (World.cell?_of_block (a := ⟨g', j, none⟩) (Below.heap_setCell wr ⟨gb, k', none⟩ v g' hne)).trans hc
    · obtain ⟨V, h1, ⟨g', c', he, hg', hcl⟩⟩ := h.gs k' (by omega)
      have := hlt k' (by omega)
      have hg'k : g' < W.heap.size ∧ g' ≠ G k ∧ g' ≠ gb := by
        rcases hg' with e | ⟨e1, e2⟩
        · exact ⟨by omega, fun e2 => hkk (hr.inj k' k (by omega) hk (e ▸ e2)), by omega⟩
        · exact ⟨e2, by omega, by omega⟩
      refine ⟨V, ?_, ⟨g', c', he, hg'.imp id (fun h => ⟨h.1, by have := hB.fr.size; simp; omega⟩), fun j hj => (World.cell?_of_block (a := ⟨g', j, none⟩) (keep g' hg'k.1 hg'k.2.1 hg'k.2.2)).trans (hcl j hj)⟩⟩
      rw [blk_cell hcg k'] at h1
      rw [blk_cell (blk_set hcg' k v) k', Array.getElem?_setIfInBounds_ne (by omega)]
      exact h1
theorem A1.toA2 {w wr : World} {n gb : Nat} {G Ln Cp : Nat → Nat} {mk : Int → Int → Int} (h : A1 w n gb G Ln Cp mk n 0 wr) : A2 w n gb G Ln Cp mk 0 wr :=
  ⟨h.fr, fun j _ hj => h.typ j hj, fun k' j hk' hj => h.fil k' j (.inl hk') hk' hj, h.gbn, ⟨_, h.gs, by simp [size_madeCells]⟩, fun k' hk' => by omega⟩
theorem A2.drew {w wr : World} {n gb k : Nat} {G Ln Cp : Nat → Nat} {mk : Int → Int → Int} (h : A2 w n gb G Ln Cp mk k wr) : A2 w n gb G Ln Cp mk k wr.drew := ⟨h.fr.drew, h.typ, h.fil, h.gbn, h.gsb, fun k' hk' => by obtain ⟨V, h1, g', c', h2, h3, h4⟩ := h.gs k' hk'; exact ⟨V, h1, g', c', h2, h3, h4⟩⟩
def low_apart.T8 : Bool × List (List Nat × List Nat) := (true, [([], []), ([], []), ([0, 1], [0, 1]), ([2], [2]), ([], []), ([], []), ([], []), ([5, 6], [5, 6]), ([3, 4, 0, 1, 2, 3, 4, 5, 6, 7], [3, 4]), ([8, 7, 7, 0, 1, 2, 3, 4, 5, 6, 7], [7, 8])])
def low_apart.B8 : List Nat := [0, 0, 3, 7, 0, 0, 0, 96, 255, 511]
theorem low_apart.tab8 : rtab .any (opsOf Try.f16 8) = low_apart.T8 := by kernel_rfl
theorem low_apart.bits8 : waitsOk low_apart.T8.2 low_apart.B8 = true := by kernel_rfl
def low_apart.T24 : Bool × List (List Nat × List Nat) := (true, [([], []), ([], []), ([0, 1], [0, 1]), ([2], [2]), ([], []), ([3, 4], [3, 4]), ([5], [5]), ([], []), ([], []), ([7, 8], [7, 8]), ([6, 9], [6, 9]), ([10, 9], [10]), ([11], [11]), ([11], [11]), ([11], [11]), ([13, 14, 11], [11, 13, 14]), ([15, 11], [11, 15]), ([16, 11], [11, 16]), ([12, 17, 11], [11, 12, 17]), ([18, 11, 11], [11, 18]), ([19], [19]), ([19], [19]), ([20, 21, 19], [19, 20, 21]), ([22, 19], [19, 22]), ([19], [19]), ([23, 24, 19], [19, 23, 24]), ([25, 19], [19, 25]), ([19], [19]), ([19], [19]), ([27, 28, 19, 19], [19, 27, 28]), ([26, 29, 19], [19, 26, 29]), ([19, 30, 11], [11, 19, 30]), ([11, 31], [11, 31])])
def low_apart.B24 : List Nat := [0, 0, 3, 7, 0, 31, 63, 0, 0, 384, 1023, 2047, 4095, 4095, 4095, 28671, 61439, 126975, 262143, 524287, 1048575, 1048575, 4194303, 8388607, 1048575, 33554431, 67108863, 1048575, 1048575, 403701759, 1073741823, 2147483647, 4294967295]
theorem low_apart.tab24 : rtab .any (opsOf Try.f16 24) = low_apart.T24 := by kernel_rfl
theorem low_apart.bits24 : waitsOk low_apart.T24.2 low_apart.B24 = true := by kernel_rfl
set_option maxRecDepth 100000 in
set_option maxHeartbeats 8000000 in
theorem apart_calls {w : World} {n lb : Nat} {G Ln Cp : Nat → Nat} (hr : AR w n lb G Ln Cp) (hn : n ≤ 1000) :
    Calls Try.prog 16 #[.slice (some ⟨lb, 0, none⟩) n n] w fun e w' => e = .returned (.bool true) ∧ Fr w w' (AX n G) := by
  obtain ⟨mk, hmk⟩ : ∃ mk : Int → Int → Int, ∀ (k i : Int) (w : World), Calls Try.prog 34 #[.int .i64 k, .int .i64 i] w fun e w' => e = .returned (.int .u8 (mk k i)) ∧ w = w' := ⟨mkB, mark_calls⟩
  have HMk := Lib.hid hmk
  have HR := Lib.hid hr
  clear hmk hr
  have hmake : ∀ u : World, (Instr.makeSlice 33 (.int .i64 n) (.int .i64 n)).run Try.prog u = .ok (.slice (some ⟨u.heap.size, 0, none⟩) n n) (u.alloc (.cells (madeCells #[.slice none 0 0] n) 24)) := fun u => by
    obtain ⟨i0, hi, hz0, hz1, hz2⟩ := info_parts info24
    have hmk := run_make (P := Try.prog) u 33 24 i0 (.slice none 0 0) Try.underlying33 hi hz0 .i64 .i64 n n (by omega) (by omega) (by rw [hz2]; omega) (by omega)
    rw [hz1, Int.toNat_natCast, Nat.mul_one] at hmk
    exact hmk
  have hn1 : n ≤ 9223372036854775807 := by omega
  have HN := Lib.hid hn
  go_enter Try.func16, Try.ntmps16
  go_wp2
  have H : Hid (A1 w n w.heap.size G Ln Cp mk 0 0 (w.alloc (.cells (madeCells #[.slice none 0 0] n) 24))) := Lib.hid ⟨Fr.of_below (below_alloc (Below.refl _ _) _) _, fun j hj => by obtain ⟨cs, h1, h2⟩ := HR.out.typ j hj; exact ⟨cs, blk_alloc h1 _, h2⟩, blk_new _ _, Nat.le_refl _, fun k' j h => by omega⟩
  generalize w.alloc (.cells (madeCells #[.slice none 0 0] n) 24) = W at H ⊢
  obtain ⟨gb, hgb⟩ : ∃ x, x = w.heap.size := ⟨_, rfl⟩
  rw [← hgb] at H ⊢
  have HGb := Lib.hid hgb
  clear hgb
  go_loopw [4] (fun v4 wr => ∃ k : Nat, k ≤ n ∧ v4 = .int .i64 k ∧ Hid (A1 w n gb G Ln Cp mk k 0 wr)) (fun v4 _ => n - (intOf v4).toNat)
  case atStart => exact ⟨0, Nat.zero_le _, rfl, H⟩
  case round =>
    clear H
    obtain ⟨k, hk, rfl, H⟩ := hrel
    by_cases hkn : k < n
    · have hki : (k : Int) < (n : Int) := by omega
      have hle := HR.out.le k hkn
      go_wp2
      go_loopw [5] (fun v5 wr => ∃ i : Nat, i ≤ Ln k ∧ v5 = .int .i64 i ∧ Hid (A1 w n gb G Ln Cp mk k i wr)) (fun v5 _ => Ln k - (intOf v5).toNat)
      case atStart => exact ⟨0, Nat.zero_le _, rfl, H⟩
      case round =>
        clear H
        obtain ⟨i, hi, rfl, H⟩ := hrel
        have ct : wr.cell? ⟨lb, k, none⟩ = some (.slice (some ⟨G k, 0, none⟩) (Ln k) (Cp k)) := HR.out.tab' H.out.fr k hkn
        have hll : Ln k ≤ 9223372036854775807 := by omega
        by_cases hin : i < Ln k
        · have hii : (i : Int) < (Ln k : Int) := by omega
          obtain ⟨ck, hck, hsk⟩ := H.out.typ k hkn
          have cx : wr.drew.cell? ⟨G k, i, none⟩ = some (ck[i]'(by omega)) := by rw [blk_cell (blk_drew hck) i, Array.getElem?_eq_getElem (by omega)]
          have cz : wr.drew.frozen? ⟨G k, i, none⟩ = false := blk_frozen (blk_drew hck) i
          generalize ck[i]'(by omega) = old at cx
          have ct' : wr.drew.cell? ⟨lb, k, none⟩ = some (.slice (some ⟨G k, 0, none⟩) (Ln k) (Cp k)) := ct
          have HS := Lib.hid (A1.set HR.out H.out.drew hkn hin)
          clear hck
          go_upto_region 8 with (fail)
          refine start_ (n := 10) (S := fun w' => w'.cell? ⟨lb, k, none⟩ = some (.slice (some ⟨G k, 0, none⟩) (Ln k) (Cp k))) (ds := [9]) #[false, false, false, false, false, false, false, false, false, false] (by kernel_rfl) rfl rfl (ct') (fun hHeld => ?_)
          refine with_tabW low_apart.tab8 low_apart.bits8 (fun HT_ HW_ => ?_)
          refine pure_ (i := 0) (N := some 29) (v := ?_) (a' := ?_) #[true, false, false, false, false, false, false, false, false, false] rfl rfl (any_of HT_.out (by kernel_rfl)) (fun _ _ _ h => h) (Or.inl ⟨by rfl, ?_⟩) ?_ ?_
          rotate_left
          · intro w'
            go_simp
            with_reducible rfl
          rotate_left
          · simp only [Act.put, List.setIfInBounds_toArray, List.set_cons_zero, List.set_cons_succ, i64_w, i32_w]
            rfl
          refine pure_ (i := 1) (N := some 30) (v := ?_) (a' := ?_) #[true, true, false, false, false, false, false, false, false, false] rfl rfl (any_of HT_.out (by kernel_rfl)) (fun _ _ _ h => h) (Or.inl ⟨by rfl, ?_⟩) ?_ ?_
          rotate_left
          · intro w'
            go_simp
            with_reducible rfl
          rotate_left
          · simp only [Act.put, List.setIfInBounds_toArray, List.set_cons_zero, List.set_cons_succ, i64_w, i32_w]
            rfl
          refine pure_ (i := 2) (N := some 31) (v := ?_) (a' := ?_) #[true, true, true, false, false, false, false, false, false, false] rfl rfl (any_of HT_.out (by kernel_rfl)) (fun _ _ _ h => h) (Or.inl ⟨by rfl, ?_⟩) ?_ ?_
          rotate_left
          · intro w'
            go_simp
            with_reducible rfl
          rotate_left
          · simp only [Act.put, List.setIfInBounds_toArray, List.set_cons_zero, List.set_cons_succ, i64_w, i32_w]
            rfl
          refine pure_ (i := 4) (N := some 33) (v := ?_) (a' := ?_) #[true, true, true, false, true, false, false, false, false, false] rfl rfl (any_of HT_.out (by kernel_rfl)) (fun _ _ _ h => h) (Or.inl ⟨by rfl, ?_⟩) ?_ ?_
          rotate_left
          · intro w'
            go_simp
            with_reducible rfl
          rotate_left
          · simp only [Act.put, List.setIfInBounds_toArray, List.set_cons_zero, List.set_cons_succ, i64_w, i32_w]
            rfl
          refine pure_ (i := 5) (N := some 34) (v := ?_) (a' := ?_) #[true, true, true, false, true, true, false, false, false, false] rfl rfl (any_of HT_.out (by kernel_rfl)) (fun _ _ _ h => h) (Or.inl ⟨by rfl, ?_⟩) ?_ ?_
          rotate_left
          · intro w'
            go_simp
            with_reducible rfl
          rotate_left
          · simp only [Act.put, List.setIfInBounds_toArray, List.set_cons_zero, List.set_cons_succ, i64_w, i32_w]
            rfl
          refine pure_ (i := 6) (N := some 35) (v := ?_) (a' := ?_) #[true, true, true, false, true, true, true, false, false, false] rfl rfl (any_of HT_.out (by kernel_rfl)) (fun _ _ _ h => h) (Or.inl ⟨by rfl, ?_⟩) ?_ ?_
          rotate_left
          · intro w'
            go_simp
            with_reducible rfl
          rotate_left
          · simp only [Act.put, List.setIfInBounds_toArray, List.set_cons_zero, List.set_cons_succ, i64_w, i32_w]
            rfl
          refine take_ (i := 3) (N := some 32) (v := ?_) (a' := ?_) #[true, true, true, true, true, true, true, false, false, false] rfl rfl (take_ofW HT_.out HW_.out (by kernel_rfl)) (fun _ _ _ h => h) (Or.inl ⟨by rfl, ?_⟩) hHeld ?_ ?_
          rotate_left
          · intro w' s0
            go_simp
            with_reducible rfl
          rotate_left
          · simp only [Act.put, List.setIfInBounds_toArray, List.set_cons_zero, List.set_cons_succ, i64_w, i32_w]
            rfl
          refine one_ (i := 7) (N := some 36) #[true, true, true, true, true, true, true, true, false, false] rfl rfl (one_of HT_.out (by kernel_rfl)) (by decide) (fun K hK => ?_)
          refine goes_ Try.func34 (by kernel_rfl) rfl #[.int .i64 (k : Int), .int .i64 (i : Int)] (by rfl) rfl rfl (by simp only [List.map_toArray, List.map_cons, List.map_nil]; rfl) ?_
          with_reducible refine (HMk.out _ _ _).mono ?_
          rintro e x1 ⟨rfl, rfl⟩
          refine ⟨_, rfl, ?_⟩
          refine hK.out _ _ (ct') (fun hHeld => ?_)
          clear hK K
          refine norm_ (a' := ?_) ?_ ?_
          rotate_left
          · show Act.put _ (some 36) _ = _
            simp only [Act.put, List.setIfInBounds_toArray, List.set_cons_zero, List.set_cons_succ, i64_w, i32_w]
            rfl
          refine pure_ (i := 8) (N := some 37) (v := ?_) (a' := ?_) #[true, true, true, true, true, true, true, true, true, false] rfl rfl (any_of HT_.out (by kernel_rfl)) (fun _ _ _ h => h) (Or.inl ⟨by rfl, ?_⟩) ?_ ?_
          rotate_left
          · intro w'
            go_simp
            with_reducible rfl
          rotate_left
          · simp only [Act.put, List.setIfInBounds_toArray, List.set_cons_zero, List.set_cons_succ, i64_w, i32_w]
            rfl
          refine last_ (i := 9) (N := none) #[true, true, true, true, true, true, true, true, true, true] rfl rfl (one_of HT_.out (by kernel_rfl)) (by decide) (fun K hK => ?_)
          refine skip_ (w1 := ?_) (by rfl) rfl ?_ ?_
          rotate_left
          · go_simp
            rfl
          refine hK.out _ _ ?_
          clear hK K
          refine done_ (done_of HT_.out (by kernel_rfl)) ?_
          
          go_wp2
          go_roundw
          case rel => exact ⟨i + 1, by omega, by go_num, HS⟩
          case measure => simp [intOf]; omega
        · have hii : ¬ (i : Int) < (Ln k : Int) := by omega
          have HN1 := Lib.hid (A1.next H.out (by omega))
          go_wp2
          go_roundw
          case rel => exact ⟨k + 1, by omega, by go_num, HN1⟩
          case measure => simp [intOf]; omega
    · have hki : ¬ (k : Int) < (n : Int) := by omega
      obtain rfl : k = n := by omega
      have H2 := Lib.hid H.out.toA2
      clear H hki hkn hk
      go_wp2
      go_loopw [6] (fun v6 wr => ∃ k2 : Nat, k2 ≤ k ∧ v6 = .int .i64 k2 ∧ Hid (A2 w k gb G Ln Cp mk k2 wr)) (fun v6 _ => k - (intOf v6).toNat)
      case atStart => exact ⟨0, Nat.zero_le _, rfl, H2⟩
      case round =>
        clear H2
        obtain ⟨k2, hk2, rfl, H⟩ := hrel
        obtain ⟨Wk, hWk⟩ : ∃ x, x = wr := ⟨_, rfl⟩
        subst hWk
        by_cases hkn : k2 < k
        · have hki : (k2 : Int) < (k : Int) := by omega
          have hle := HR.out.le k2 hkn
          have ct : Wk.cell? ⟨lb, k2, none⟩ = some (.slice (some ⟨G k2, 0, none⟩) (Ln k2) (Cp k2)) := HR.out.tab' H.out.fr k2 hkn
          have HB := Lib.hid (B2.start HR.out H.out hkn)
          have HCa := Lib.hid (H.out.came HR.out hkn).1
          go_wp2
          clear ct
          go_loopw [7, 8] (fun v7 v8 wr => ∃ j : Nat, j ≤ 40 ∧ v8 = .int .i64 j ∧ Hid (B2 Wk G Ln Cp mk k2 j v7 wr)) (fun _ v8 _ => 40 - (intOf v8).toNat)
          case atStart => exact ⟨0, Nat.zero_le _, rfl, HB⟩
          case round =>
            clear HB
            obtain ⟨j, hj, rfl, HB⟩ := hrel
            have hFr := H.out.fr.then_ HB.out.fr (fun b hb => .inl ⟨k2, hkn, hb⟩)
            have ct : wr.cell? ⟨lb, k2, none⟩ = some (.slice (some ⟨G k2, 0, none⟩) (Ln k2) (Cp k2)) := HR.out.tab' hFr k2 hkn
            clear hFr
            have hll : Ln k2 ≤ 9223372036854775807 := by omega
            by_cases hj40 : j < 40
            · have hji : (j : Int) < 40 := by omega
              obtain ⟨m, hm⟩ : ∃ m, m = Ln k2 + j := ⟨_, rfl⟩
              have v1 : IntKind.i64.wrap ((Ln k2 : Int) + (j : Int)) = (m : Int) := by rw [IntKind.wrap_i64]; omega
              have HM := Lib.hid hm
              have hmb : m + 1 ≤ 1000000000 := by omega
              clear hm
              obtain ⟨r, hU⟩ := HB.out.up
              have HU := Lib.hid hU
              clear hU
              go_wp2_with fail
              refine (HMk.out _ _ _).mono ?_
              rintro e w1 ⟨rfl, rfl⟩
              go_wp2_with ((with_reducible refine gate_builtin (b := .append) (xs := #[.tmp 52, .tmp 62]) rfl ?_); at_builtin; refine wl_append_apart rfl (.tmp 52) (.tmp 62) rfl HCa.out HB.out.own HU.out (mk k2 m) (by have := HM.out; omega) rfl rfl ?_; intro v9 w9 r9 h1 h2 h3 h4; rw [HM.out] at h1 h2; have HBn := Lib.hid (B2.step HB.out h1 h2 h3 h4); clear h1 h2 h3 h4)
              go_roundw
              case rel => exact ⟨j + 1, by omega, by go_num, HBn⟩
              case measure => simp [intOf]; omega
            · have hji : ¬ (j : Int) < 40 := by omega
              obtain rfl : j = 40 := by omega
              obtain ⟨cg, hcg, hsg⟩ := H.out.gsb
              have hne : ¬ gb = G k2 := by obtain ⟨cs, h1, _⟩ := HR.out.typ k2 hkn; have := blk_lt h1; have := H.out.gbn; omega
              have hcg' := (HB.out.fr.block gb (blk_lt hcg) hne).trans hcg
              have cx : wr.cell? ⟨gb, k2, none⟩ = some (cg[k2]'(by omega)) := by rw [blk_cell hcg' k2, Array.getElem?_eq_getElem (by omega)]
              have cz : wr.frozen? ⟨gb, k2, none⟩ = false := blk_frozen hcg' k2
              generalize cg[k2]'(by omega) = old at cx
              have HNx := Lib.hid (A2.next HR.out H.out hkn HB.out)
              obtain ⟨gv, cv, hv, _, _⟩ := HB.out.own.form (by omega)
              subst hv
              clear hcg hcg' hsg hne
              go_wp2
              go_roundw
              case rel => exact ⟨k2 + 1, by omega, by go_num, HNx⟩
              case measure => simp [intOf]; omega
        · have hki : ¬ (k2 : Int) < (k : Int) := by omega
          obtain rfl : k2 = k := by omega
          have H3 := Lib.hid H.out
          clear H hki hkn hk2
          go_wp2
          go_loopw [9] (fun v9 wr => ∃ k3 : Nat, k3 ≤ k2 ∧ v9 = .int .i64 k3 ∧ Hid (A2 w k2 gb G Ln Cp mk k2 wr)) (fun v9 _ => k2 - (intOf v9).toNat)
          case atStart => exact ⟨0, Nat.zero_le _, rfl, H3⟩
          case round =>
            clear H3
            obtain ⟨k3, hk3, rfl, H⟩ := hrel
            by_cases hkn : k3 < k2
            · have hki : (k3 : Int) < (k2 : Int) := by omega
              have hle := HR.out.le k3 hkn
              go_wp2
              go_loopw [10] (fun v10 wr => ∃ i : Nat, i ≤ Ln k3 + 40 ∧ v10 = .int .i64 i ∧ Hid (A2 w k2 gb G Ln Cp mk k2 wr)) (fun v10 _ => Ln k3 + 40 - (intOf v10).toNat)
              case atStart => exact ⟨0, Nat.zero_le _, rfl, H⟩
              case round =>
                clear H
                obtain ⟨i, hi, rfl, H⟩ := hrel
                obtain ⟨V, hV, ⟨g', c', hv, _, hcl⟩⟩ := H.out.gs k3 hkn
                subst hv
                have HCl := Lib.hid hcl
                obtain ⟨M, hM⟩ : ∃ x, x = Ln k3 + 40 := ⟨_, rfl⟩
                rw [← hM] at hV hi
                have HMM := Lib.hid hM
                have hMl : M ≤ 9223372036854775807 := by omega
                clear hcl
                by_cases hin : i < M
                · have hii : (i : Int) < (M : Int) := by omega
                  have cb : wr.drew.cell? ⟨g', i, none⟩ = some (.int .u8 (mk k3 i)) := HCl.out i (by omega)
                  have cl : wr.drew.cell? ⟨lb, k3, none⟩ = some (.slice (some ⟨G k3, 0, none⟩) (Ln k3) (Cp k3)) := HR.out.tab' H.out.fr.drew k3 hkn
                  have cg : wr.drew.cell? ⟨gb, k3, none⟩ = some (.slice (some ⟨g', 0, none⟩) M c') := hV
                  have HN2 := Lib.hid H.out.drew
                  have hll : Ln k3 ≤ 9223372036854775807 := by omega
                  clear hM
                  by_cases hiL : i < Ln k3
                  · have hil : (i : Int) < (Ln k3 : Int) := by omega
                    have cG : wr.drew.cell? ⟨G k3, i, none⟩ = some (.int .u8 (mk k3 i)) := H.out.fil k3 i hkn hiL
                    go_upto_region 24 with (fail)
                    refine start_ (n := 33) (S := fun w' => w'.cell? ⟨gb, k3, none⟩ = some (.slice (some ⟨g', 0, none⟩) M c') ∧ w'.cell? ⟨g', i, none⟩ = some (.int .u8 (mk k3 i)) ∧ w'.cell? ⟨lb, k3, none⟩ = some (.slice (some ⟨G k3, 0, none⟩) (Ln k3) (Cp k3)) ∧ w'.cell? ⟨G k3, i, none⟩ = some (.int .u8 (mk k3 i))) (ds := []) #[false, false, false, false, false, false, false, false, false, false, false, false, false, false, false, false, false, false, false, false, false, false, false, false, false, false, false, false, false, false, false, false, false] (by kernel_rfl) rfl rfl ⟨cg, cb, cl, cG⟩ (fun hHeld => ?_)
                    refine with_tabW low_apart.tab24 low_apart.bits24 (fun HT_ HW_ => ?_)
                    refine pure_ (i := 0) (N := some 83) (v := ?_) (a' := ?_) #[true, false, false, false, false, false, false, false, false, false, false, false, false, false, false, false, false, false, false, false, false, false, false, false, false, false, false, false, false, false, false, false, false] rfl rfl (any_of HT_.out (by kernel_rfl)) (fun _ _ _ h => h) (Or.inl ⟨by rfl, ?_⟩) ?_ ?_
                    rotate_left
                    · intro w'
                      go_simp
                      with_reducible rfl
                    rotate_left
                    · simp only [Act.put, List.setIfInBounds_toArray, List.set_cons_zero, List.set_cons_succ, i64_w, i32_w]
                      rfl
                    refine pure_ (i := 1) (N := some 84) (v := ?_) (a' := ?_) #[true, true, false, false, false, false, false, false, false, false, false, false, false, false, false, false, false, false, false, false, false, false, false, false, false, false, false, false, false, false, false, false, false] rfl rfl (any_of HT_.out (by kernel_rfl)) (fun _ _ _ h => h) (Or.inl ⟨by rfl, ?_⟩) ?_ ?_
                    rotate_left
                    · intro w'
                      go_simp
                      with_reducible rfl
                    rotate_left
                    · simp only [Act.put, List.setIfInBounds_toArray, List.set_cons_zero, List.set_cons_succ, i64_w, i32_w]
                      rfl
                    refine pure_ (i := 2) (N := some 85) (v := ?_) (a' := ?_) #[true, true, true, false, false, false, false, false, false, false, false, false, false, false, false, false, false, false, false, false, false, false, false, false, false, false, false, false, false, false, false, false, false] rfl rfl (any_of HT_.out (by kernel_rfl)) (fun _ _ _ h => h) (Or.inl ⟨by rfl, ?_⟩) ?_ ?_
                    rotate_left
                    · intro w'
                      go_simp
                      with_reducible rfl
                    rotate_left
                    · simp only [Act.put, List.setIfInBounds_toArray, List.set_cons_zero, List.set_cons_succ, i64_w, i32_w]
                      rfl
                    refine pure_ (i := 4) (N := some 87) (v := ?_) (a' := ?_) #[true, true, true, false, true, false, false, false, false, false, false, false, false, false, false, false, false, false, false, false, false, false, false, false, false, false, false, false, false, false, false, false, false] rfl rfl (any_of HT_.out (by kernel_rfl)) (fun _ _ _ h => h) (Or.inl ⟨by rfl, ?_⟩) ?_ ?_
                    rotate_left
                    · intro w'
                      go_simp
                      with_reducible rfl
                    rotate_left
                    · simp only [Act.put, List.setIfInBounds_toArray, List.set_cons_zero, List.set_cons_succ, i64_w, i32_w]
                      rfl
                    refine pure_ (i := 7) (N := some 90) (v := ?_) (a' := ?_) #[true, true, true, false, true, false, false, true, false, false, false, false, false, false, false, false, false, false, false, false, false, false, false, false, false, false, false, false, false, false, false, false, false] rfl rfl (any_of HT_.out (by kernel_rfl)) (fun _ _ _ h => h) (Or.inl ⟨by rfl, ?_⟩) ?_ ?_
                    rotate_left
                    · intro w'
                      go_simp
                      with_reducible rfl
                    rotate_left
                    · simp only [Act.put, List.setIfInBounds_toArray, List.set_cons_zero, List.set_cons_succ, i64_w, i32_w]
                      rfl
                    refine pure_ (i := 8) (N := some 91) (v := ?_) (a' := ?_) #[true, true, true, false, true, false, false, true, true, false, false, false, false, false, false, false, false, false, false, false, false, false, false, false, false, false, false, false, false, false, false, false, false] rfl rfl (any_of HT_.out (by kernel_rfl)) (fun _ _ _ h => h) (Or.inl ⟨by rfl, ?_⟩) ?_ ?_
                    rotate_left
                    · intro w'
                      go_simp
                      with_reducible rfl
                    rotate_left
                    · simp only [Act.put, List.setIfInBounds_toArray, List.set_cons_zero, List.set_cons_succ, i64_w, i32_w]
                      rfl
                    refine take_ (i := 3) (N := some 86) (v := ?_) (a' := ?_) #[true, true, true, true, true, false, false, true, true, false, false, false, false, false, false, false, false, false, false, false, false, false, false, false, false, false, false, false, false, false, false, false, false] rfl rfl (take_ofW HT_.out HW_.out (by kernel_rfl)) (fun _ _ _ h => h) (Or.inl ⟨by rfl, ?_⟩) hHeld ?_ ?_
                    rotate_left
                    · rintro w' ⟨s0, s1, s2, s3⟩
                      go_simp
                      with_reducible rfl
                    rotate_left
                    · simp only [Act.put, List.setIfInBounds_toArray, List.set_cons_zero, List.set_cons_succ, i64_w, i32_w]
                      rfl
                    refine pure_ (i := 5) (N := some 88) (v := ?_) (a' := ?_) #[true, true, true, true, true, true, false, true, true, false, false, false, false, false, false, false, false, false, false, false, false, false, false, false, false, false, false, false, false, false, false, false, false] rfl rfl (any_of HT_.out (by kernel_rfl)) (fun _ _ _ h => h) (Or.inl ⟨by rfl, ?_⟩) ?_ ?_
                    rotate_left
                    · intro w'
                      go_simp
                      with_reducible rfl
                    rotate_left
                    · simp only [Act.put, List.setIfInBounds_toArray, List.set_cons_zero, List.set_cons_succ, i64_w, i32_w]
                      rfl
                    refine take_ (i := 6) (N := some 89) (v := ?_) (a' := ?_) #[true, true, true, true, true, true, true, true, true, false, false, false, false, false, false, false, false, false, false, false, false, false, false, false, false, false, false, false, false, false, false, false, false] rfl rfl (take_ofW HT_.out HW_.out (by kernel_rfl)) (fun _ _ _ h => h) (Or.inl ⟨by rfl, ?_⟩) hHeld ?_ ?_
                    rotate_left
                    · rintro w' ⟨s0, s1, s2, s3⟩
                      go_simp
                      with_reducible rfl
                    rotate_left
                    · simp only [Act.put, List.setIfInBounds_toArray, List.set_cons_zero, List.set_cons_succ, i64_w, i32_w]
                      rfl
                    refine one_ (i := 9) (N := some 92) #[true, true, true, true, true, true, true, true, true, true, false, false, false, false, false, false, false, false, false, false, false, false, false, false, false, false, false, false, false, false, false, false, false] rfl rfl (one_of HT_.out (by kernel_rfl)) (by decide) (fun K hK => ?_)
                    refine goes_ Try.func34 (by kernel_rfl) rfl #[.int .i64 (k3 : Int), .int .i64 (i : Int)] (by rfl) rfl rfl (by simp only [List.map_toArray, List.map_cons, List.map_nil]; rfl) ?_
                    with_reducible refine (HMk.out _ _ _).mono ?_
                    rintro e x1 ⟨rfl, rfl⟩
                    refine ⟨_, rfl, ?_⟩
                    refine hK.out _ _ ⟨cg, cb, cl, cG⟩ (fun hHeld => ?_)
                    clear hK K
                    refine norm_ (a' := ?_) ?_ ?_
                    rotate_left
                    · show Act.put _ (some 92) _ = _
                      simp only [Act.put, List.setIfInBounds_toArray, List.set_cons_zero, List.set_cons_succ, i64_w, i32_w]
                      rfl
                    refine pure_ (i := 10) (N := some 93) (v := ?_) (a' := ?_) #[true, true, true, true, true, true, true, true, true, true, true, false, false, false, false, false, false, false, false, false, false, false, false, false, false, false, false, false, false, false, false, false, false] rfl rfl (any_of HT_.out (by kernel_rfl)) (fun _ _ _ h => h) (Or.inl ⟨by rfl, ?_⟩) ?_ ?_
                    rotate_left
                    · intro w'
                      go_simp
                      with_reducible rfl
                    rotate_left
                    · simp only [Act.put, List.setIfInBounds_toArray, List.set_cons_zero, List.set_cons_succ, i64_w, i32_w]
                      rfl
                    refine pure_ (i := 11) (N := some 94) (v := ?_) (a' := ?_) #[true, true, true, true, true, true, true, true, true, true, true, true, false, false, false, false, false, false, false, false, false, false, false, false, false, false, false, false, false, false, false, false, false] rfl rfl (any_of HT_.out (by kernel_rfl)) (fun _ _ _ h => h) (Or.inl ⟨by rfl, ?_⟩) ?_ ?_
                    rotate_left
                    · intro w'
                      go_simp
                      with_reducible rfl
                    rotate_left
                    · simp only [Act.put, List.setIfInBounds_toArray, List.set_cons_zero, List.set_cons_succ, i64_w, i32_w]
                      rfl
                    refine pure_ (i := 12) (N := some 95) (v := ?_) (a' := ?_) #[true, true, true, true, true, true, true, true, true, true, true, true, true, false, false, false, false, false, false, false, false, false, false, false, false, false, false, false, false, false, false, false, false] rfl rfl (any_of HT_.out (by kernel_rfl)) (fun _ _ _ h => h) (Or.inl ⟨by rfl, ?_⟩) ?_ ?_
                    rotate_left
                    · intro w'
                      go_simp
                      with_reducible rfl
                    rotate_left
                    · simp only [Act.put, List.setIfInBounds_toArray, List.set_cons_zero, List.set_cons_succ, i64_w, i32_w]
                      rfl
                    refine pure_ (i := 13) (N := some 96) (v := ?_) (a' := ?_) #[true, true, true, true, true, true, true, true, true, true, true, true, true, true, false, false, false, false, false, false, false, false, false, false, false, false, false, false, false, false, false, false, false] rfl rfl (any_of HT_.out (by kernel_rfl)) (fun _ _ _ h => h) (Or.inl ⟨by rfl, ?_⟩) ?_ ?_
                    rotate_left
                    · intro w'
                      go_simp
                      with_reducible rfl
                    rotate_left
                    · simp only [Act.put, List.setIfInBounds_toArray, List.set_cons_zero, List.set_cons_succ, i64_w, i32_w]
                      rfl
                    refine pure_ (i := 14) (N := some 97) (v := ?_) (a' := ?_) #[true, true, true, true, true, true, true, true, true, true, true, true, true, true, true, false, false, false, false, false, false, false, false, false, false, false, false, false, false, false, false, false, false] rfl rfl (any_of HT_.out (by kernel_rfl)) (fun _ _ _ h => h) (Or.inl ⟨by rfl, ?_⟩) ?_ ?_
                    rotate_left
                    · intro w'
                      go_simp
                      with_reducible rfl
                    rotate_left
                    · simp only [Act.put, List.setIfInBounds_toArray, List.set_cons_zero, List.set_cons_succ, i64_w, i32_w]
                      rfl
                    refine pure_ (i := 15) (N := some 98) (v := ?_) (a' := ?_) #[true, true, true, true, true, true, true, true, true, true, true, true, true, true, true, true, false, false, false, false, false, false, false, false, false, false, false, false, false, false, false, false, false] rfl rfl (any_of HT_.out (by kernel_rfl)) (fun _ _ _ h => h) (Or.inl ⟨by rfl, ?_⟩) ?_ ?_
                    rotate_left
                    · intro w'
                      go_simp
                      with_reducible rfl
                    rotate_left
                    · simp only [Act.put, List.setIfInBounds_toArray, List.set_cons_zero, List.set_cons_succ, i64_w, i32_w]
                      rfl
                    refine take_ (i := 16) (N := some 99) (v := ?_) (a' := ?_) #[true, true, true, true, true, true, true, true, true, true, true, true, true, true, true, true, true, false, false, false, false, false, false, false, false, false, false, false, false, false, false, false, false] rfl rfl (take_ofW HT_.out HW_.out (by kernel_rfl)) (fun _ _ _ h => h) (Or.inl ⟨by rfl, ?_⟩) hHeld ?_ ?_
                    rotate_left
                    · rintro w' ⟨s0, s1, s2, s3⟩
                      go_simp
                      with_reducible rfl
                    rotate_left
                    · simp only [Act.put, List.setIfInBounds_toArray, List.set_cons_zero, List.set_cons_succ, i64_w, i32_w]
                      rfl
                    refine pure_ (i := 17) (N := some 100) (v := ?_) (a' := ?_) #[true, true, true, true, true, true, true, true, true, true, true, true, true, true, true, true, true, true, false, false, false, false, false, false, false, false, false, false, false, false, false, false, false] rfl rfl (any_of HT_.out (by kernel_rfl)) (fun _ _ _ h => h) (Or.inl ⟨by rfl, ?_⟩) ?_ ?_
                    rotate_left
                    · intro w'
                      go_simp
                      with_reducible rfl
                    rotate_left
                    · simp only [Act.put, List.setIfInBounds_toArray, List.set_cons_zero, List.set_cons_succ, i64_w, i32_w]
                      rfl
                    refine pure_ (i := 18) (N := some 101) (v := ?_) (a' := ?_) #[true, true, true, true, true, true, true, true, true, true, true, true, true, true, true, true, true, true, true, false, false, false, false, false, false, false, false, false, false, false, false, false, false] rfl rfl (any_of HT_.out (by kernel_rfl)) (fun _ _ _ h => h) (Or.inl ⟨by rfl, ?_⟩) ?_ ?_
                    rotate_left
                    · intro w'
                      go_simp
                      with_reducible rfl
                    rotate_left
                    · simp only [Act.put, List.setIfInBounds_toArray, List.set_cons_zero, List.set_cons_succ, i64_w, i32_w]
                      rfl
                    refine pure_ (i := 19) (N := some 102) (v := ?_) (a' := ?_) #[true, true, true, true, true, true, true, true, true, true, true, true, true, true, true, true, true, true, true, true, false, false, false, false, false, false, false, false, false, false, false, false, false] rfl rfl (any_of HT_.out (by kernel_rfl)) (fun _ _ _ h => h) (Or.inl ⟨by rfl, ?_⟩) ?_ ?_
                    rotate_left
                    · intro w'
                      go_simp
                      with_reducible rfl
                    rotate_left
                    · simp only [Act.put, List.setIfInBounds_toArray, List.set_cons_zero, List.set_cons_succ, i64_w, i32_w]
                      rfl
                    refine pure_ (i := 20) (N := some 103) (v := ?_) (a' := ?_) #[true, true, true, true, true, true, true, true, true, true, true, true, true, true, true, true, true, true, true, true, true, false, false, false, false, false, false, false, false, false, false, false, false] rfl rfl (any_of HT_.out (by kernel_rfl)) (fun _ _ _ h => h) (Or.inl ⟨by rfl, ?_⟩) ?_ ?_
                    rotate_left
                    · intro w'
                      go_simp
                      with_reducible rfl
                    rotate_left
                    · simp only [Act.put, List.setIfInBounds_toArray, List.set_cons_zero, List.set_cons_succ, i64_w, i32_w]
                      rfl
                    refine pure_ (i := 21) (N := some 104) (v := ?_) (a' := ?_) #[true, true, true, true, true, true, true, true, true, true, true, true, true, true, true, true, true, true, true, true, true, true, false, false, false, false, false, false, false, false, false, false, false] rfl rfl (any_of HT_.out (by kernel_rfl)) (fun _ _ _ h => h) (Or.inl ⟨by rfl, ?_⟩) ?_ ?_
                    rotate_left
                    · intro w'
                      go_simp
                      with_reducible rfl
                    rotate_left
                    · simp only [Act.put, List.setIfInBounds_toArray, List.set_cons_zero, List.set_cons_succ, i64_w, i32_w]
                      rfl
                    refine pure_ (i := 22) (N := some 105) (v := ?_) (a' := ?_) #[true, true, true, true, true, true, true, true, true, true, true, true, true, true, true, true, true, true, true, true, true, true, true, false, false, false, false, false, false, false, false, false, false] rfl rfl (any_of HT_.out (by kernel_rfl)) (fun _ _ _ h => h) (Or.inl ⟨by rfl, ?_⟩) ?_ ?_
                    rotate_left
                    · intro w'
                      go_simp
                      with_reducible rfl
                    rotate_left
                    · simp only [Act.put, List.setIfInBounds_toArray, List.set_cons_zero, List.set_cons_succ, i64_w, i32_w]
                      rfl
                    refine pure_ (i := 24) (N := some 107) (v := ?_) (a' := ?_) #[true, true, true, true, true, true, true, true, true, true, true, true, true, true, true, true, true, true, true, true, true, true, true, false, true, false, false, false, false, false, false, false, false] rfl rfl (any_of HT_.out (by kernel_rfl)) (fun _ _ _ h => h) (Or.inl ⟨by rfl, ?_⟩) ?_ ?_
                    rotate_left
                    · intro w'
                      go_simp
                      with_reducible rfl
                    rotate_left
                    · simp only [Act.put, List.setIfInBounds_toArray, List.set_cons_zero, List.set_cons_succ, i64_w, i32_w]
                      rfl
                    refine pure_ (i := 27) (N := some 110) (v := ?_) (a' := ?_) #[true, true, true, true, true, true, true, true, true, true, true, true, true, true, true, true, true, true, true, true, true, true, true, false, true, false, false, true, false, false, false, false, false] rfl rfl (any_of HT_.out (by kernel_rfl)) (fun _ _ _ h => h) (Or.inl ⟨by rfl, ?_⟩) ?_ ?_
                    rotate_left
                    · intro w'
                      go_simp
                      with_reducible rfl
                    rotate_left
                    · simp only [Act.put, List.setIfInBounds_toArray, List.set_cons_zero, List.set_cons_succ, i64_w, i32_w]
                      rfl
                    refine pure_ (i := 28) (N := some 111) (v := ?_) (a' := ?_) #[true, true, true, true, true, true, true, true, true, true, true, true, true, true, true, true, true, true, true, true, true, true, true, false, true, false, false, true, true, false, false, false, false] rfl rfl (any_of HT_.out (by kernel_rfl)) (fun _ _ _ h => h) (Or.inl ⟨by rfl, ?_⟩) ?_ ?_
                    rotate_left
                    · intro w'
                      go_simp
                      with_reducible rfl
                    rotate_left
                    · simp only [Act.put, List.setIfInBounds_toArray, List.set_cons_zero, List.set_cons_succ, i64_w, i32_w]
                      rfl
                    refine take_ (i := 23) (N := some 106) (v := ?_) (a' := ?_) #[true, true, true, true, true, true, true, true, true, true, true, true, true, true, true, true, true, true, true, true, true, true, true, true, true, false, false, true, true, false, false, false, false] rfl rfl (take_ofW HT_.out HW_.out (by kernel_rfl)) (fun _ _ _ h => h) (Or.inl ⟨by rfl, ?_⟩) hHeld ?_ ?_
                    rotate_left
                    · rintro w' ⟨s0, s1, s2, s3⟩
                      go_simp
                      with_reducible rfl
                    rotate_left
                    · simp only [Act.put, List.setIfInBounds_toArray, List.set_cons_zero, List.set_cons_succ, i64_w, i32_w]
                      rfl
                    refine pure_ (i := 25) (N := some 108) (v := ?_) (a' := ?_) #[true, true, true, true, true, true, true, true, true, true, true, true, true, true, true, true, true, true, true, true, true, true, true, true, true, true, false, true, true, false, false, false, false] rfl rfl (any_of HT_.out (by kernel_rfl)) (fun _ _ _ h => h) (Or.inl ⟨by rfl, ?_⟩) ?_ ?_
                    rotate_left
                    · intro w'
                      go_simp
                      with_reducible rfl
                    rotate_left
                    · simp only [Act.put, List.setIfInBounds_toArray, List.set_cons_zero, List.set_cons_succ, i64_w, i32_w]
                      rfl
                    refine take_ (i := 26) (N := some 109) (v := ?_) (a' := ?_) #[true, true, true, true, true, true, true, true, true, true, true, true, true, true, true, true, true, true, true, true, true, true, true, true, true, true, true, true, true, false, false, false, false] rfl rfl (take_ofW HT_.out HW_.out (by kernel_rfl)) (fun _ _ _ h => h) (Or.inl ⟨by rfl, ?_⟩) hHeld ?_ ?_
                    rotate_left
                    · rintro w' ⟨s0, s1, s2, s3⟩
                      go_simp
                      with_reducible rfl
                    rotate_left
                    · simp only [Act.put, List.setIfInBounds_toArray, List.set_cons_zero, List.set_cons_succ, i64_w, i32_w]
                      rfl
                    refine one_ (i := 29) (N := some 112) #[true, true, true, true, true, true, true, true, true, true, true, true, true, true, true, true, true, true, true, true, true, true, true, true, true, true, true, true, true, true, false, false, false] rfl rfl (one_of HT_.out (by kernel_rfl)) (by decide) (fun K hK => ?_)
                    refine goes_ Try.func34 (by kernel_rfl) rfl #[.int .i64 (k3 : Int), .int .i64 (i : Int)] (by rfl) rfl rfl (by simp only [List.map_toArray, List.map_cons, List.map_nil]; rfl) ?_
                    with_reducible refine (HMk.out _ _ _).mono ?_
                    rintro e x2 ⟨rfl, rfl⟩
                    refine ⟨_, rfl, ?_⟩
                    refine hK.out _ _ ⟨cg, cb, cl, cG⟩ (fun hHeld => ?_)
                    clear hK K
                    refine norm_ (a' := ?_) ?_ ?_
                    rotate_left
                    · show Act.put _ (some 112) _ = _
                      simp only [Act.put, List.setIfInBounds_toArray, List.set_cons_zero, List.set_cons_succ, i64_w, i32_w]
                      rfl
                    refine pure_ (i := 30) (N := some 113) (v := ?_) (a' := ?_) #[true, true, true, true, true, true, true, true, true, true, true, true, true, true, true, true, true, true, true, true, true, true, true, true, true, true, true, true, true, true, true, false, false] rfl rfl (any_of HT_.out (by kernel_rfl)) (fun _ _ _ h => h) (Or.inl ⟨by rfl, ?_⟩) ?_ ?_
                    rotate_left
                    · intro w'
                      go_simp
                      with_reducible rfl
                    rotate_left
                    · simp only [Act.put, List.setIfInBounds_toArray, List.set_cons_zero, List.set_cons_succ, i64_w, i32_w]
                      rfl
                    refine pure_ (i := 31) (N := some 114) (v := ?_) (a' := ?_) #[true, true, true, true, true, true, true, true, true, true, true, true, true, true, true, true, true, true, true, true, true, true, true, true, true, true, true, true, true, true, true, true, false] rfl rfl (any_of HT_.out (by kernel_rfl)) (fun _ _ _ h => h) (Or.inl ⟨by rfl, ?_⟩) ?_ ?_
                    rotate_left
                    · intro w'
                      go_simp
                      with_reducible rfl
                    rotate_left
                    · simp only [Act.put, List.setIfInBounds_toArray, List.set_cons_zero, List.set_cons_succ, i64_w, i32_w]
                      rfl
                    refine pure_ (i := 32) (N := some 115) (v := ?_) (a' := ?_) #[true, true, true, true, true, true, true, true, true, true, true, true, true, true, true, true, true, true, true, true, true, true, true, true, true, true, true, true, true, true, true, true, true] rfl rfl (any_of HT_.out (by kernel_rfl)) (fun _ _ _ h => h) (Or.inl ⟨by rfl, ?_⟩) ?_ ?_
                    rotate_left
                    · intro w'
                      go_simp
                      with_reducible rfl
                    rotate_left
                    · simp only [Act.put, List.setIfInBounds_toArray, List.set_cons_zero, List.set_cons_succ, i64_w, i32_w]
                      rfl
                    refine done_ (done_of HT_.out (by kernel_rfl)) ?_
                    
                    go_wp2
                    go_roundw
                    case rel => exact ⟨i + 1, by have := HMM.out; omega, by go_num, HN2⟩
                    case measure => have := HMM.out; simp [intOf]; omega
                  · have hil : ¬ (i : Int) < (Ln k3 : Int) := by omega
                    go_upto_region 24 with (fail)
                    refine start_ (n := 33) (S := fun w' => w'.cell? ⟨gb, k3, none⟩ = some (.slice (some ⟨g', 0, none⟩) M c') ∧ w'.cell? ⟨g', i, none⟩ = some (.int .u8 (mk k3 i)) ∧ w'.cell? ⟨lb, k3, none⟩ = some (.slice (some ⟨G k3, 0, none⟩) (Ln k3) (Cp k3))) (ds := []) #[false, false, false, false, false, false, false, false, false, false, false, false, false, false, false, false, false, false, false, false, false, false, false, false, false, false, false, false, false, false, false, false, false] (by kernel_rfl) rfl rfl ⟨cg, cb, cl⟩ (fun hHeld => ?_)
                    refine with_tabW low_apart.tab24 low_apart.bits24 (fun HT_ HW_ => ?_)
                    refine pure_ (i := 0) (N := some 83) (v := ?_) (a' := ?_) #[true, false, false, false, false, false, false, false, false, false, false, false, false, false, false, false, false, false, false, false, false, false, false, false, false, false, false, false, false, false, false, false, false] rfl rfl (any_of HT_.out (by kernel_rfl)) (fun _ _ _ h => h) (Or.inl ⟨by rfl, ?_⟩) ?_ ?_
                    rotate_left
                    · intro w'
                      go_simp
                      with_reducible rfl
                    rotate_left
                    · simp only [Act.put, List.setIfInBounds_toArray, List.set_cons_zero, List.set_cons_succ, i64_w, i32_w]
                      rfl
                    refine pure_ (i := 1) (N := some 84) (v := ?_) (a' := ?_) #[true, true, false, false, false, false, false, false, false, false, false, false, false, false, false, false, false, false, false, false, false, false, false, false, false, false, false, false, false, false, false, false, false] rfl rfl (any_of HT_.out (by kernel_rfl)) (fun _ _ _ h => h) (Or.inl ⟨by rfl, ?_⟩) ?_ ?_
                    rotate_left
                    · intro w'
                      go_simp
                      with_reducible rfl
                    rotate_left
                    · simp only [Act.put, List.setIfInBounds_toArray, List.set_cons_zero, List.set_cons_succ, i64_w, i32_w]
                      rfl
                    refine pure_ (i := 2) (N := some 85) (v := ?_) (a' := ?_) #[true, true, true, false, false, false, false, false, false, false, false, false, false, false, false, false, false, false, false, false, false, false, false, false, false, false, false, false, false, false, false, false, false] rfl rfl (any_of HT_.out (by kernel_rfl)) (fun _ _ _ h => h) (Or.inl ⟨by rfl, ?_⟩) ?_ ?_
                    rotate_left
                    · intro w'
                      go_simp
                      with_reducible rfl
                    rotate_left
                    · simp only [Act.put, List.setIfInBounds_toArray, List.set_cons_zero, List.set_cons_succ, i64_w, i32_w]
                      rfl
                    refine pure_ (i := 4) (N := some 87) (v := ?_) (a' := ?_) #[true, true, true, false, true, false, false, false, false, false, false, false, false, false, false, false, false, false, false, false, false, false, false, false, false, false, false, false, false, false, false, false, false] rfl rfl (any_of HT_.out (by kernel_rfl)) (fun _ _ _ h => h) (Or.inl ⟨by rfl, ?_⟩) ?_ ?_
                    rotate_left
                    · intro w'
                      go_simp
                      with_reducible rfl
                    rotate_left
                    · simp only [Act.put, List.setIfInBounds_toArray, List.set_cons_zero, List.set_cons_succ, i64_w, i32_w]
                      rfl
                    refine pure_ (i := 7) (N := some 90) (v := ?_) (a' := ?_) #[true, true, true, false, true, false, false, true, false, false, false, false, false, false, false, false, false, false, false, false, false, false, false, false, false, false, false, false, false, false, false, false, false] rfl rfl (any_of HT_.out (by kernel_rfl)) (fun _ _ _ h => h) (Or.inl ⟨by rfl, ?_⟩) ?_ ?_
                    rotate_left
                    · intro w'
                      go_simp
                      with_reducible rfl
                    rotate_left
                    · simp only [Act.put, List.setIfInBounds_toArray, List.set_cons_zero, List.set_cons_succ, i64_w, i32_w]
                      rfl
                    refine pure_ (i := 8) (N := some 91) (v := ?_) (a' := ?_) #[true, true, true, false, true, false, false, true, true, false, false, false, false, false, false, false, false, false, false, false, false, false, false, false, false, false, false, false, false, false, false, false, false] rfl rfl (any_of HT_.out (by kernel_rfl)) (fun _ _ _ h => h) (Or.inl ⟨by rfl, ?_⟩) ?_ ?_
                    rotate_left
                    · intro w'
                      go_simp
                      with_reducible rfl
                    rotate_left
                    · simp only [Act.put, List.setIfInBounds_toArray, List.set_cons_zero, List.set_cons_succ, i64_w, i32_w]
                      rfl
                    refine take_ (i := 3) (N := some 86) (v := ?_) (a' := ?_) #[true, true, true, true, true, false, false, true, true, false, false, false, false, false, false, false, false, false, false, false, false, false, false, false, false, false, false, false, false, false, false, false, false] rfl rfl (take_ofW HT_.out HW_.out (by kernel_rfl)) (fun _ _ _ h => h) (Or.inl ⟨by rfl, ?_⟩) hHeld ?_ ?_
                    rotate_left
                    · rintro w' ⟨s0, s1, s2⟩
                      go_simp
                      with_reducible rfl
                    rotate_left
                    · simp only [Act.put, List.setIfInBounds_toArray, List.set_cons_zero, List.set_cons_succ, i64_w, i32_w]
                      rfl
                    refine pure_ (i := 5) (N := some 88) (v := ?_) (a' := ?_) #[true, true, true, true, true, true, false, true, true, false, false, false, false, false, false, false, false, false, false, false, false, false, false, false, false, false, false, false, false, false, false, false, false] rfl rfl (any_of HT_.out (by kernel_rfl)) (fun _ _ _ h => h) (Or.inl ⟨by rfl, ?_⟩) ?_ ?_
                    rotate_left
                    · intro w'
                      go_simp
                      with_reducible rfl
                    rotate_left
                    · simp only [Act.put, List.setIfInBounds_toArray, List.set_cons_zero, List.set_cons_succ, i64_w, i32_w]
                      rfl
                    refine take_ (i := 6) (N := some 89) (v := ?_) (a' := ?_) #[true, true, true, true, true, true, true, true, true, false, false, false, false, false, false, false, false, false, false, false, false, false, false, false, false, false, false, false, false, false, false, false, false] rfl rfl (take_ofW HT_.out HW_.out (by kernel_rfl)) (fun _ _ _ h => h) (Or.inl ⟨by rfl, ?_⟩) hHeld ?_ ?_
                    rotate_left
                    · rintro w' ⟨s0, s1, s2⟩
                      go_simp
                      with_reducible rfl
                    rotate_left
                    · simp only [Act.put, List.setIfInBounds_toArray, List.set_cons_zero, List.set_cons_succ, i64_w, i32_w]
                      rfl
                    refine one_ (i := 9) (N := some 92) #[true, true, true, true, true, true, true, true, true, true, false, false, false, false, false, false, false, false, false, false, false, false, false, false, false, false, false, false, false, false, false, false, false] rfl rfl (one_of HT_.out (by kernel_rfl)) (by decide) (fun K hK => ?_)
                    refine goes_ Try.func34 (by kernel_rfl) rfl #[.int .i64 (k3 : Int), .int .i64 (i : Int)] (by rfl) rfl rfl (by simp only [List.map_toArray, List.map_cons, List.map_nil]; rfl) ?_
                    with_reducible refine (HMk.out _ _ _).mono ?_
                    rintro e x1 ⟨rfl, rfl⟩
                    refine ⟨_, rfl, ?_⟩
                    refine hK.out _ _ ⟨cg, cb, cl⟩ (fun hHeld => ?_)
                    clear hK K
                    refine norm_ (a' := ?_) ?_ ?_
                    rotate_left
                    · show Act.put _ (some 92) _ = _
                      simp only [Act.put, List.setIfInBounds_toArray, List.set_cons_zero, List.set_cons_succ, i64_w, i32_w]
                      rfl
                    refine pure_ (i := 10) (N := some 93) (v := ?_) (a' := ?_) #[true, true, true, true, true, true, true, true, true, true, true, false, false, false, false, false, false, false, false, false, false, false, false, false, false, false, false, false, false, false, false, false, false] rfl rfl (any_of HT_.out (by kernel_rfl)) (fun _ _ _ h => h) (Or.inl ⟨by rfl, ?_⟩) ?_ ?_
                    rotate_left
                    · intro w'
                      go_simp
                      with_reducible rfl
                    rotate_left
                    · simp only [Act.put, List.setIfInBounds_toArray, List.set_cons_zero, List.set_cons_succ, i64_w, i32_w]
                      rfl
                    refine pure_ (i := 11) (N := some 94) (v := ?_) (a' := ?_) #[true, true, true, true, true, true, true, true, true, true, true, true, false, false, false, false, false, false, false, false, false, false, false, false, false, false, false, false, false, false, false, false, false] rfl rfl (any_of HT_.out (by kernel_rfl)) (fun _ _ _ h => h) (Or.inl ⟨by rfl, ?_⟩) ?_ ?_
                    rotate_left
                    · intro w'
                      go_simp
                      with_reducible rfl
                    rotate_left
                    · simp only [Act.put, List.setIfInBounds_toArray, List.set_cons_zero, List.set_cons_succ, i64_w, i32_w]
                      rfl
                    refine pure_ (i := 12) (N := some 95) (v := ?_) (a' := ?_) #[true, true, true, true, true, true, true, true, true, true, true, true, true, false, false, false, false, false, false, false, false, false, false, false, false, false, false, false, false, false, false, false, false] rfl rfl (any_of HT_.out (by kernel_rfl)) (fun _ _ _ h => h) (Or.inl ⟨by rfl, ?_⟩) ?_ ?_
                    rotate_left
                    · intro w'
                      go_simp
                      with_reducible rfl
                    rotate_left
                    · simp only [Act.put, List.setIfInBounds_toArray, List.set_cons_zero, List.set_cons_succ, i64_w, i32_w]
                      rfl
                    refine pure_ (i := 13) (N := some 96) (v := ?_) (a' := ?_) #[true, true, true, true, true, true, true, true, true, true, true, true, true, true, false, false, false, false, false, false, false, false, false, false, false, false, false, false, false, false, false, false, false] rfl rfl (any_of HT_.out (by kernel_rfl)) (fun _ _ _ h => h) (Or.inl ⟨by rfl, ?_⟩) ?_ ?_
                    rotate_left
                    · intro w'
                      go_simp
                      with_reducible rfl
                    rotate_left
                    · simp only [Act.put, List.setIfInBounds_toArray, List.set_cons_zero, List.set_cons_succ, i64_w, i32_w]
                      rfl
                    refine pure_ (i := 14) (N := some 97) (v := ?_) (a' := ?_) #[true, true, true, true, true, true, true, true, true, true, true, true, true, true, true, false, false, false, false, false, false, false, false, false, false, false, false, false, false, false, false, false, false] rfl rfl (any_of HT_.out (by kernel_rfl)) (fun _ _ _ h => h) (Or.inl ⟨by rfl, ?_⟩) ?_ ?_
                    rotate_left
                    · intro w'
                      go_simp
                      with_reducible rfl
                    rotate_left
                    · simp only [Act.put, List.setIfInBounds_toArray, List.set_cons_zero, List.set_cons_succ, i64_w, i32_w]
                      rfl
                    refine pure_ (i := 15) (N := some 98) (v := ?_) (a' := ?_) #[true, true, true, true, true, true, true, true, true, true, true, true, true, true, true, true, false, false, false, false, false, false, false, false, false, false, false, false, false, false, false, false, false] rfl rfl (any_of HT_.out (by kernel_rfl)) (fun _ _ _ h => h) (Or.inl ⟨by rfl, ?_⟩) ?_ ?_
                    rotate_left
                    · intro w'
                      go_simp
                      with_reducible rfl
                    rotate_left
                    · simp only [Act.put, List.setIfInBounds_toArray, List.set_cons_zero, List.set_cons_succ, i64_w, i32_w]
                      rfl
                    refine take_ (i := 16) (N := some 99) (v := ?_) (a' := ?_) #[true, true, true, true, true, true, true, true, true, true, true, true, true, true, true, true, true, false, false, false, false, false, false, false, false, false, false, false, false, false, false, false, false] rfl rfl (take_ofW HT_.out HW_.out (by kernel_rfl)) (fun _ _ _ h => h) (Or.inl ⟨by rfl, ?_⟩) hHeld ?_ ?_
                    rotate_left
                    · rintro w' ⟨s0, s1, s2⟩
                      go_simp
                      with_reducible rfl
                    rotate_left
                    · simp only [Act.put, List.setIfInBounds_toArray, List.set_cons_zero, List.set_cons_succ, i64_w, i32_w]
                      rfl
                    refine pure_ (i := 17) (N := some 100) (v := ?_) (a' := ?_) #[true, true, true, true, true, true, true, true, true, true, true, true, true, true, true, true, true, true, false, false, false, false, false, false, false, false, false, false, false, false, false, false, false] rfl rfl (any_of HT_.out (by kernel_rfl)) (fun _ _ _ h => h) (Or.inl ⟨by rfl, ?_⟩) ?_ ?_
                    rotate_left
                    · intro w'
                      go_simp
                      with_reducible rfl
                    rotate_left
                    · simp only [Act.put, List.setIfInBounds_toArray, List.set_cons_zero, List.set_cons_succ, i64_w, i32_w]
                      rfl
                    refine pure_ (i := 18) (N := some 101) (v := ?_) (a' := ?_) #[true, true, true, true, true, true, true, true, true, true, true, true, true, true, true, true, true, true, true, false, false, false, false, false, false, false, false, false, false, false, false, false, false] rfl rfl (any_of HT_.out (by kernel_rfl)) (fun _ _ _ h => h) (Or.inl ⟨by rfl, ?_⟩) ?_ ?_
                    rotate_left
                    · intro w'
                      go_simp
                      with_reducible rfl
                    rotate_left
                    · simp only [Act.put, List.setIfInBounds_toArray, List.set_cons_zero, List.set_cons_succ, i64_w, i32_w]
                      rfl
                    refine pure_ (i := 19) (N := some 102) (v := ?_) (a' := ?_) #[true, true, true, true, true, true, true, true, true, true, true, true, true, true, true, true, true, true, true, true, false, false, false, false, false, false, false, false, false, false, false, false, false] rfl rfl (any_of HT_.out (by kernel_rfl)) (fun _ _ _ h => h) (Or.inl ⟨by rfl, ?_⟩) ?_ ?_
                    rotate_left
                    · intro w'
                      go_simp
                      with_reducible rfl
                    rotate_left
                    · simp only [Act.put, List.setIfInBounds_toArray, List.set_cons_zero, List.set_cons_succ, i64_w, i32_w]
                      rfl
                    refine pure_ (i := 20) (N := some 103) (v := undef) (a' := ?_) #[true, true, true, true, true, true, true, true, true, true, true, true, true, true, true, true, true, true, true, true, true, false, false, false, false, false, false, false, false, false, false, false, false] rfl rfl (any_of HT_.out (by kernel_rfl)) (fun _ _ _ h => h) (Or.inr ⟨by rfl, rfl⟩) ?_ ?_
                    rotate_left
                    · simp only [Act.put, List.setIfInBounds_toArray, List.set_cons_zero, List.set_cons_succ, i64_w, i32_w]
                      rfl
                    refine pure_ (i := 21) (N := some 104) (v := undef) (a' := ?_) #[true, true, true, true, true, true, true, true, true, true, true, true, true, true, true, true, true, true, true, true, true, true, false, false, false, false, false, false, false, false, false, false, false] rfl rfl (any_of HT_.out (by kernel_rfl)) (fun _ _ _ h => h) (Or.inr ⟨by rfl, rfl⟩) ?_ ?_
                    rotate_left
                    · simp only [Act.put, List.setIfInBounds_toArray, List.set_cons_zero, List.set_cons_succ, i64_w, i32_w]
                      rfl
                    refine pure_ (i := 22) (N := some 105) (v := undef) (a' := ?_) #[true, true, true, true, true, true, true, true, true, true, true, true, true, true, true, true, true, true, true, true, true, true, true, false, false, false, false, false, false, false, false, false, false] rfl rfl (any_of HT_.out (by kernel_rfl)) (fun _ _ _ h => h) (Or.inr ⟨by rfl, rfl⟩) ?_ ?_
                    rotate_left
                    · simp only [Act.put, List.setIfInBounds_toArray, List.set_cons_zero, List.set_cons_succ, i64_w, i32_w]
                      rfl
                    refine pure_ (i := 23) (N := some 106) (v := undef) (a' := ?_) #[true, true, true, true, true, true, true, true, true, true, true, true, true, true, true, true, true, true, true, true, true, true, true, true, false, false, false, false, false, false, false, false, false] rfl rfl (any_of HT_.out (by kernel_rfl)) (fun _ _ _ h => h) (Or.inr ⟨by rfl, rfl⟩) ?_ ?_
                    rotate_left
                    · simp only [Act.put, List.setIfInBounds_toArray, List.set_cons_zero, List.set_cons_succ, i64_w, i32_w]
                      rfl
                    refine pure_ (i := 24) (N := some 107) (v := undef) (a' := ?_) #[true, true, true, true, true, true, true, true, true, true, true, true, true, true, true, true, true, true, true, true, true, true, true, true, true, false, false, false, false, false, false, false, false] rfl rfl (any_of HT_.out (by kernel_rfl)) (fun _ _ _ h => h) (Or.inr ⟨by rfl, rfl⟩) ?_ ?_
                    rotate_left
                    · simp only [Act.put, List.setIfInBounds_toArray, List.set_cons_zero, List.set_cons_succ, i64_w, i32_w]
                      rfl
                    refine pure_ (i := 25) (N := some 108) (v := undef) (a' := ?_) #[true, true, true, true, true, true, true, true, true, true, true, true, true, true, true, true, true, true, true, true, true, true, true, true, true, true, false, false, false, false, false, false, false] rfl rfl (any_of HT_.out (by kernel_rfl)) (fun _ _ _ h => h) (Or.inr ⟨by rfl, rfl⟩) ?_ ?_
                    rotate_left
                    · simp only [Act.put, List.setIfInBounds_toArray, List.set_cons_zero, List.set_cons_succ, i64_w, i32_w]
                      rfl
                    refine pure_ (i := 26) (N := some 109) (v := undef) (a' := ?_) #[true, true, true, true, true, true, true, true, true, true, true, true, true, true, true, true, true, true, true, true, true, true, true, true, true, true, true, false, false, false, false, false, false] rfl rfl (any_of HT_.out (by kernel_rfl)) (fun _ _ _ h => h) (Or.inr ⟨by rfl, rfl⟩) ?_ ?_
                    rotate_left
                    · simp only [Act.put, List.setIfInBounds_toArray, List.set_cons_zero, List.set_cons_succ, i64_w, i32_w]
                      rfl
                    refine pure_ (i := 27) (N := some 110) (v := undef) (a' := ?_) #[true, true, true, true, true, true, true, true, true, true, true, true, true, true, true, true, true, true, true, true, true, true, true, true, true, true, true, true, false, false, false, false, false] rfl rfl (any_of HT_.out (by kernel_rfl)) (fun _ _ _ h => h) (Or.inr ⟨by rfl, rfl⟩) ?_ ?_
                    rotate_left
                    · simp only [Act.put, List.setIfInBounds_toArray, List.set_cons_zero, List.set_cons_succ, i64_w, i32_w]
                      rfl
                    refine pure_ (i := 28) (N := some 111) (v := undef) (a' := ?_) #[true, true, true, true, true, true, true, true, true, true, true, true, true, true, true, true, true, true, true, true, true, true, true, true, true, true, true, true, true, false, false, false, false] rfl rfl (any_of HT_.out (by kernel_rfl)) (fun _ _ _ h => h) (Or.inr ⟨by rfl, rfl⟩) ?_ ?_
                    rotate_left
                    · simp only [Act.put, List.setIfInBounds_toArray, List.set_cons_zero, List.set_cons_succ, i64_w, i32_w]
                      rfl
                    refine pure_ (i := 29) (N := some 112) (v := undef) (a' := ?_) #[true, true, true, true, true, true, true, true, true, true, true, true, true, true, true, true, true, true, true, true, true, true, true, true, true, true, true, true, true, true, false, false, false] rfl rfl (any_of HT_.out (by kernel_rfl)) (fun _ _ _ h => h) (Or.inr ⟨by rfl, rfl⟩) ?_ ?_
                    rotate_left
                    · simp only [Act.put, List.setIfInBounds_toArray, List.set_cons_zero, List.set_cons_succ, i64_w, i32_w]
                      rfl
                    refine pure_ (i := 30) (N := some 113) (v := undef) (a' := ?_) #[true, true, true, true, true, true, true, true, true, true, true, true, true, true, true, true, true, true, true, true, true, true, true, true, true, true, true, true, true, true, true, false, false] rfl rfl (any_of HT_.out (by kernel_rfl)) (fun _ _ _ h => h) (Or.inr ⟨by rfl, rfl⟩) ?_ ?_
                    rotate_left
                    · simp only [Act.put, List.setIfInBounds_toArray, List.set_cons_zero, List.set_cons_succ, i64_w, i32_w]
                      rfl
                    refine pure_ (i := 31) (N := some 114) (v := ?_) (a' := ?_) #[true, true, true, true, true, true, true, true, true, true, true, true, true, true, true, true, true, true, true, true, true, true, true, true, true, true, true, true, true, true, true, true, false] rfl rfl (any_of HT_.out (by kernel_rfl)) (fun _ _ _ h => h) (Or.inl ⟨by rfl, ?_⟩) ?_ ?_
                    rotate_left
                    · intro w'
                      go_simp
                      with_reducible rfl
                    rotate_left
                    · simp only [Act.put, List.setIfInBounds_toArray, List.set_cons_zero, List.set_cons_succ, i64_w, i32_w]
                      rfl
                    refine pure_ (i := 32) (N := some 115) (v := ?_) (a' := ?_) #[true, true, true, true, true, true, true, true, true, true, true, true, true, true, true, true, true, true, true, true, true, true, true, true, true, true, true, true, true, true, true, true, true] rfl rfl (any_of HT_.out (by kernel_rfl)) (fun _ _ _ h => h) (Or.inl ⟨by rfl, ?_⟩) ?_ ?_
                    rotate_left
                    · intro w'
                      go_simp
                      with_reducible rfl
                    rotate_left
                    · simp only [Act.put, List.setIfInBounds_toArray, List.set_cons_zero, List.set_cons_succ, i64_w, i32_w]
                      rfl
                    refine done_ (done_of HT_.out (by kernel_rfl)) ?_
                    
                    go_wp2
                    go_roundw
                    case rel => exact ⟨i + 1, by have := HMM.out; omega, by go_num, HN2⟩
                    case measure => have := HMM.out; simp [intOf]; omega
                · have hii : ¬ (i : Int) < (M : Int) := by omega
                  go_wp2
                  go_roundw
                  case rel => exact ⟨k3 + 1, by omega, by go_num, H⟩
                  case measure => simp [intOf]; omega
            · have hki : ¬ (k3 : Int) < (k2 : Int) := by omega
              go_wp2
              go_ret
              exact ⟨rfl, H.out.fr⟩
end Go.Proofs.Ytfggcdpipolahaa.PF
