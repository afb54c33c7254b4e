/- math/bits.OnesCount32: a table of bytes, four looks. -/
import Derived.Test.YthcikldhlohjbaaGen
set_option linter.unusedVariables false
set_option linter.unusedSimpArgs false
namespace Go.Proofs.Ythcikldhlohjbaa.Ones
open Go.RowKit Go.Proofs.YthcikldhlohjbaaW.PrintWords Go.Proofs.YthcikldhlohjbaaW.PrintLast Go.Proofs.YthcikldhlohjbaaW.PrintMore Go.Proofs.Ythcikldhlohjbaa.Gen
/-- How many bits of a byte are set. -/
def pop8 (n : Int) : Int := n % 2 + n / 2 % 2 + n / 4 % 2 + n / 8 % 2 + n / 16 % 2 + n / 32 % 2 + n / 64 % 2 + n / 128 % 2
def ones (a : Int) : Int := pop8 (a / 16777216) + pop8 (a / 65536 % 256) + pop8 (a / 256 % 256) + pop8 (a % 256)
theorem pop8_le {n : Int} : 0 ≤ pop8 n ∧ pop8 n ≤ 8 := by unfold pop8; omega
theorem and255 (x : Int) (h0 : 0 ≤ x) (h1 : x < 4294967296) : Go.bits .and .u32 x 255 = x % 256 := by
  obtain ⟨n, rfl⟩ := Int.eq_ofNat_of_zero_le h0
  have h := bits_mask .u32 32 (by decide) (fun n h₀ h₁ => by rw [IntKind.wrap_u32]; omega) 8 (by decide) (n : Int) h0 (by omega)
  exact h
def tab : ByteArray := ⟨#[0, 1, 1, 2, 1, 2, 2, 3, 1, 2, 2, 3, 2, 3, 3, 4, 1, 2, 2, 3, 2, 3, 3, 4, 2, 3, 3, 4, 3, 4, 4, 5, 1, 2, 2, 3, 2, 3, 3, 4, 2, 3, 3, 4, 3, 4, 4, 5, 2, 3, 3, 4, 3, 4, 4, 5, 3, 4, 4, 5, 4, 5, 5, 6, 1, 2, 2, 3, 2, 3, 3, 4, 2, 3, 3, 4, 3, 4, 4, 5, 2, 3, 3, 4, 3, 4, 4, 5, 3, 4, 4, 5, 4, 5, 5, 6, 2, 3, 3, 4, 3, 4, 4, 5, 3, 4, 4, 5, 4, 5, 5, 6, 3, 4, 4, 5, 4, 5, 5, 6, 4, 5, 5, 6, 5, 6, 6, 7, 1, 2, 2, 3, 2, 3, 3, 4, 2, 3, 3, 4, 3, 4, 4, 5, 2, 3, 3, 4, 3, 4, 4, 5, 3, 4, 4, 5, 4, 5, 5, 6, 2, 3, 3, 4, 3, 4, 4, 5, 3, 4, 4, 5, 4, 5, 5, 6, 3, 4, 4, 5, 4, 5, 5, 6, 4, 5, 5, 6, 5, 6, 6, 7, 2, 3, 3, 4, 3, 4, 4, 5, 3, 4, 4, 5, 4, 5, 5, 6, 3, 4, 4, 5, 4, 5, 5, 6, 4, 5, 5, 6, 5, 6, 6, 7, 3, 4, 4, 5, 4, 5, 5, 6, 4, 5, 5, 6, 5, 6, 6, 7, 4, 5, 5, 6, 5, 6, 6, 7, 5, 6, 6, 7, 6, 7, 7, 8]⟩
theorem tab_size : tab.size = 256 := by decide +kernel
theorem tab_all : ∀ i : Fin 256, (tab.data.toList[i.1]?.map fun b => (b.toNat : Int)) = some (pop8 (i.1 : Int)) := by decide +kernel
theorem tab_run (x : Int) (h0 : 0 ≤ x) (h1 : x < 256) (w : World) : (Instr.index 9 (.string tab) (.int .u32 x)).run Try.prog w = .ok (.int .u8 (pop8 x)) w := by
  obtain ⟨n, rfl⟩ := Int.eq_ofNat_of_zero_le h0
  have hn : n < 256 := by omega
  have hu : Try.prog.underlying 9 = some .string := Try.underlying9
  have ht := tab_all ⟨n, hn⟩
  have hs := tab_size
  have hb : n < tab.size := by rw [hs]; exact hn
  have hl : n < tab.data.toList.length := by rw [Array.length_toList]; exact hb
  have h2 : tab[n]? = some tab[n] := getElem?_pos tab n hb
  rw [List.getElem?_eq_getElem hl, Option.map_some] at ht
  have h3 : ((tab[n].toNat : Nat) : Int) = pop8 (n : Int) := Option.some.inj ht
  simp [Instr.index, asIntOf, h2, h3]
set_option maxRecDepth 100000 in
set_option maxHeartbeats 1000000 in
theorem ones_quiet (a : Int) (h0 : 0 ≤ a) (h1 : a < 4294967296) (w : World) : Calls Try.prog 91 #[.int .u32 a] w fun e w' => e = .returned (.int .i64 (ones a)) ∧ ∃ m, w' = w.drewN m := by
  have hix : ∀ (x : Int) (w : World), 0 ≤ x → x < 256 → (Instr.index 9 (.string ⟨#[0, 1, 1, 2, 1, 2, 2, 3, 1, 2, 2, 3, 2, 3, 3, 4, 1, 2, 2, 3, 2, 3, 3, 4, 2, 3, 3, 4, 3, 4, 4, 5, 1, 2, 2, 3, 2, 3, 3, 4, 2, 3, 3, 4, 3, 4, 4, 5, 2, 3, 3, 4, 3, 4, 4, 5, 3, 4, 4, 5, 4, 5, 5, 6, 1, 2, 2, 3, 2, 3, 3, 4, 2, 3, 3, 4, 3, 4, 4, 5, 2, 3, 3, 4, 3, 4, 4, 5, 3, 4, 4, 5, 4, 5, 5, 6, 2, 3, 3, 4, 3, 4, 4, 5, 3, 4, 4, 5, 4, 5, 5, 6, 3, 4, 4, 5, 4, 5, 5, 6, 4, 5, 5, 6, 5, 6, 6, 7, 1, 2, 2, 3, 2, 3, 3, 4, 2, 3, 3, 4, 3, 4, 4, 5, 2, 3, 3, 4, 3, 4, 4, 5, 3, 4, 4, 5, 4, 5, 5, 6, 2, 3, 3, 4, 3, 4, 4, 5, 3, 4, 4, 5, 4, 5, 5, 6, 3, 4, 4, 5, 4, 5, 5, 6, 4, 5, 5, 6, 5, 6, 6, 7, 2, 3, 3, 4, 3, 4, 4, 5, 3, 4, 4, 5, 4, 5, 5, 6, 3, 4, 4, 5, 4, 5, 5, 6, 4, 5, 5, 6, 5, 6, 6, 7, 3, 4, 4, 5, 4, 5, 5, 6, 4, 5, 5, 6, 5, 6, 6, 7, 4, 5, 5, 6, 5, 6, 6, 7, 5, 6, 6, 7, 6, 7, 7, 8]⟩) (.int .u32 x)).run Try.prog w = .ok (.int .u8 (pop8 x)) w := fun x w a b => tab_run x a b w
  have p1 : 0 ≤ a / 16777216 ∧ a / 16777216 < 256 := by omega
  have p2 := and255 (a / 65536) (by omega) (by omega)
  have p3 := and255 (a / 256) (by omega) (by omega)
  have p4 := and255 a (by omega) (by omega)
  have q2 : 0 ≤ a / 65536 % 256 ∧ a / 65536 % 256 < 256 := by omega
  have q3 : 0 ≤ a / 256 % 256 ∧ a / 256 % 256 < 256 := by omega
  have q4 : 0 ≤ a % 256 ∧ a % 256 < 256 := by omega
  have b1 := pop8_le (n := a / 16777216)
  have b2 := pop8_le (n := a / 65536 % 256)
  have b3 := pop8_le (n := a / 256 % 256)
  have b4 := pop8_le (n := a % 256)
  obtain ⟨p11, p12⟩ := p1
  obtain ⟨q21, q22⟩ := q2
  obtain ⟨q31, q32⟩ := q3
  obtain ⟨q41, q42⟩ := q4
  obtain ⟨b11, b12⟩ := b1
  obtain ⟨b21, b22⟩ := b2
  obtain ⟨b31, b32⟩ := b3
  obtain ⟨b41, b42⟩ := b4
  go_enter Try.func91, Try.ntmps91
  go_wp2
  go_quiet (fail)
  go_wp2
  go_ret
  exact ⟨rfl, _, rfl⟩
theorem ones_calls (a : Int) (h0 : 0 ≤ a) (h1 : a < 4294967296) (w : World) : Calls Try.prog 91 #[.int .u32 a] w fun e w' => e = .returned (.int .i64 (ones a)) ∧ Below w.heap.size w w' := by
  refine (ones_quiet a h0 h1 w).mono ?_
  rintro e w' ⟨he, m, rfl⟩
  exact ⟨he, pw_below_drewN (Below.refl _ _) _⟩
end Go.Proofs.Ythcikldhlohjbaa.Ones
