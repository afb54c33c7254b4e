/- A parameter of any kind (numbers, bools, strings, slices, structs, arrays of these) opened into the words' kinds, with its sizes. -/
import Derived.Test.YtnhkbjihgepapaaWWords
import Derived.Test.YtnhkbjihgepapaaWArr
import Derived.Deep.Slices
import Derived.ChangeArms
import Derived.SizedLaws
import Derived.Handed
set_option linter.unusedVariables false
set_option linter.unusedSimpArgs false
namespace Go.Proofs.Ytnhkbjihgepapaa.Open
open Go.RowKit Go.Deep Go.Proofs.YtnhkbjihgepapaaW.PrintWords

structure Opens {α : Type} (P : Program) (G : α → Prop) (d : Kd α) (t : TypeId) : Prop where
  cells : P.cellsOf t = d.sz
  opened : ∀ {H : Type} {enc : TypeId × Value → H} {w : World} {base : Nat} {spare : Nat → Bool} {held : Bool} {fuel : Nat} {cs : List Value} {x : DataW H × List MemPlace},
    DataW.trod enc P w base spare held fuel t cs = some x → (∀ n ∈ x.1.weights P t, n ≤ reachBytes) → ∃ a : α, d.K w a cs ∧ G a
/-- Fields in line, from an offset on. -/
structure OpensF {α : Type} (P : Program) (G : α → Prop) (d : Kd α) (fs : List Field) (off : Nat) : Prop where
  opened : ∀ {H : Type} {enc : TypeId × Value → H} {w : World} {base : Nat} {spare : Nat → Bool} {held : Bool} {fuel : Nat} {cs : List Value} {xs : List (DataW H × List MemPlace)},
    cs.length = off + d.sz → xs.length = fs.length → (∀ (i : Nat) (f : Field), fs[i]? = some f → DataW.trod enc P w base spare held fuel f.type ((cs.drop f.offset).take (P.cellsOf f.type)) = xs[i]?) →
    (∀ n ∈ DataW.weightsEach P (fs.map (·.type)) (xs.map (·.1)), n ≤ reachBytes) → ∃ a : α, d.K w a (cs.drop off) ∧ G a

section
variable {P : Program} {t : TypeId}
theorem o_int {k : IntKind} (ht : P.underlying t = some (.int k)) (hc : P.cellsOf t = 1) : Opens P (fun x => (Lit.int k x).wf = true) (Kd.int k) t where
  cells := hc
  opened h _ := by
    obtain ⟨n, rfl, _, hw⟩ := DataW.trod_int ht h
    exact ⟨n, rfl, hw⟩
theorem weightsAll_mem {H : Type} {e : TypeId} : ∀ {l : List (DataW H)} {d : DataW H}, d ∈ l → ∀ n ∈ d.weights P e, n ∈ DataW.weightsAll P e l
  | x :: l, d, hd, n, hn => by
    rw [DataW.weightsAll]
    rcases List.mem_cons.1 hd with rfl | hd
    · exact List.mem_append_left _ hn
    · exact List.mem_append_right _ (weightsAll_mem hd n hn)
theorem o_slice {α : Type} {G : α → Prop} {d : Kd α} {e : TypeId} (ht : P.underlying t = some (.slice e)) (hc : P.cellsOf t = 1) (B : Nat) (hB : P.bytesOf e = B) (O : Opens P G d e) [Inhabited α] :
    Opens P (fun l : List α => l.length * B ≤ 140737488351232 ∧ ∀ x ∈ l, G x) (Kd.slice e d) t where
  cells := hc
  opened {H enc w base spare held fuel cs x} h hw := by
    rcases open_slice ht h with ⟨rfl, rfl⟩ | ⟨a, len, cap, m, n, D, Pl, rfl, hb, hl, hm, hmm, rfl, hx⟩
    · exact ⟨[], ⟨none, 0, rfl, Nat.le_refl _, rfl, Nat.zero_le _, fun h => absurd h (Nat.lt_irrefl _)⟩, by simp, fun x hx => by cases hx⟩
    · have hlm : len ≤ m := by rw [hmm]; split <;> omega
      rw [DataW.weights, ht] at hw
      simp only at hw
      have hex : ∀ i, i < len → ∃ y : α, ∃ c : List Value, c.length = d.sz ∧ d.K w y c ∧ G y ∧ ∀ j u, c[j]? = some u → w.cell? (a.add (i * d.sz + j)) = some u := by
        intro i hi
        obtain ⟨cs', h1, h2⟩ := hx i (by omega)
        obtain ⟨_, h3, h4⟩ := World.cells?_some h1
        obtain ⟨y, hK, hG⟩ := O.opened h2 (fun n hn => hw n (List.mem_cons_of_mem _ (List.mem_append_left _ (weightsAll_mem (List.mem_map.2 ⟨i, List.mem_range.2 hi, rfl⟩) n hn))))
        refine ⟨y, cs', by rw [h3, O.cells], hK, hG, fun j u hj => ?_⟩
        have hjl : j < P.cellsOf e := by
          have := (List.getElem?_eq_some_iff.1 hj).1
          omega
        have := h4 j hjl
        rw [Deep.add_add, O.cells] at this
        rw [this, hj]
      obtain ⟨Y, hY⟩ := choose_lt hex
      have hget : ∀ (j : Nat) (p : α), ((List.range len).map Y)[j]? = some p → j < len ∧ p = Y j := by
        intro j p hp
        rw [List.getElem?_map] at hp
        by_cases hj : j < len
        · rw [List.getElem?_range hj] at hp
          exact ⟨hj, (Option.some.inj hp).symm⟩
        · rw [List.getElem?_eq_none (by simpa using hj)] at hp
          cases hp
      refine ⟨(List.range len).map Y, ⟨some a, cap, by simp, by simpa using hl, ?_⟩, ?_, ?_⟩
      · refine ⟨rfl, ?_, fun _ => ⟨a, rfl, fun j p hp => ?_⟩⟩
        · have : maxLen ≤ 9223372036854775807 := by decide
          simp only [List.length_map, List.length_range]
          omega
        · obtain ⟨hj, rfl⟩ := hget j p hp
          obtain ⟨c, h1, h2, _, h4⟩ := hY j hj
          exact ⟨c, h1, h2, h4⟩
      · have h5 := hw _ List.mem_cons_self
        rw [hB] at h5
        simp only [List.length_map, List.length_range] at h5 ⊢
        have h6 : len * B ≤ (len + (m - len)) * B := Nat.mul_le_mul_right _ (by omega)
        have h7 : reachBytes = 140737488351232 := by decide
        omega
      · intro x hx
        obtain ⟨i, hi, rfl⟩ := List.mem_map.1 hx
        exact (hY i (List.mem_range.1 hi)).elim fun _ h => h.2.2.1
end
/-- A whole parameter. -/
theorem Opens.arg {α : Type} {P : Program} {G : α → Prop} {d : Kd α} {t : TypeId} (O : Opens P G d t) {H : Type} {enc : TypeId × Value → H} {w : World} {base : Nat} {spare : Nat → Bool} {held : Bool} {v : Value} {x : DataW H} {ps : List MemPlace}
    {ts : List TypeId} {ds : List (DataW H)} {j : Nat} (hsz : (DataW.weightsEach P ts ds).all (· ≤ reachBytes) = true) (ht : ts[j]? = some t) (hd : ds[j]? = some x) (h : DataW.Trod enc P w base spare held t v x ps) : ∃ a : α, d.K w a v.cells.toList ∧ G a := by
  obtain ⟨fuel, hf⟩ := h
  exact O.opened hf (fun n hn => by simpa using List.all_eq_true.1 hsz _ (DataW.weights_mem_each ht hd n hn))
end Go.Proofs.Ytnhkbjihgepapaa.Open
