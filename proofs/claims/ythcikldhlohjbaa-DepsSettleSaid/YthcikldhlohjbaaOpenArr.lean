/- A parameter that is an array of two, opened. -/
import Derived.Test.YthcikldhlohjbaaOpen
import Derived.OpenShut
set_option linter.unusedVariables false
set_option linter.unusedSimpArgs false
namespace Go.Proofs.Ythcikldhlohjbaa.Open
open Go.RowKit Go.Deep Go.Proofs.YthcikldhlohjbaaW.PrintWords
theorem o_pair {P : Program} {t : TypeId} {α : Type} {G : α → Prop} {d : Kd α} {e : TypeId} (ht : P.underlying t = some (.array 2 e)) (hc : P.cellsOf t = d.sz + d.sz) (O : Opens P G d e) : Opens P (fun x : α × α => G x.1 ∧ G x.2) (Kd.pair d d) t where
  cells := hc
  opened {H enc w base spare held fuel cs x} h hw := by
    obtain ⟨xs, n, _, rfl, hcl, hxl, hf⟩ := DataW.trod_array ht h
    rw [DataW.weights, ht] at hw
    simp only at hw
    match xs, hxl with
    | [x, y], _ =>
      have h0 := hf 0 (by omega)
      have h1 := hf 1 (by omega)
      rw [O.cells] at h0 h1
      rw [Nat.zero_mul, List.drop_zero] at h0
      rw [Nat.one_mul, List.take_of_length_le (by rw [List.length_drop]; omega)] at h1
      obtain ⟨a, hK, hG⟩ := O.opened h0 (fun n hn => hw n (weightsAll_mem (List.mem_map.2 ⟨x, List.mem_cons_self, rfl⟩) n hn))
      obtain ⟨b, hK2, hG2⟩ := O.opened h1 (fun n hn => hw n (weightsAll_mem (List.mem_map.2 ⟨y, List.mem_cons_of_mem _ List.mem_cons_self, rfl⟩) n hn))
      exact ⟨(a, b), ⟨_, _, (List.take_append_drop d.sz cs).symm, hK, hK2⟩, hG, hG2⟩
end Go.Proofs.Ythcikldhlohjbaa.Open
