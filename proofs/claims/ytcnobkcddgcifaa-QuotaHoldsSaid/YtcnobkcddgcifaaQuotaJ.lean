/- The kit's CopyJobs, in plain Lean; the law's closure. (A part of the print PT.) -/
import Derived.Test.YtcnobkcddgcifaaPTx4
import Derived.Test.YtcnobkcddgcifaaQuotaM
set_option linter.unusedVariables false
set_option linter.unusedSimpArgs false
namespace Go.Proofs.Ytcnobkcddgcifaa.PT
open Go.RowKit Go.Proofs.YtcnobkcddgcifaaW.PrintWords Go.Proofs.YtcnobkcddgcifaaW.PrintLast Go.Proofs.YtcnobkcddgcifaaW.PrintMore Go.Proofs.Ytcnobkcddgcifaa.Gen Go.Proofs.Ytcnobkcddgcifaa.EvK
theorem rdDep {l : List S112} {j : Nat} (h : j < l.length) : rd_T112 l j = l[j] := by unfold rd_T112; simp [List.getD, h]
theorem rdJob {l : List S53} {j : Nat} (h : j < l.length) : rd_T53 l j = l[j] := by unfold rd_T53; simp [List.getD, h]
theorem copyDeps_l0 (l : List S112) (hl : l.length < 8796093022208) : ∀ (k j : Nat), j ≤ l.length → l.length - j < k → musterkit_CopyDeps.l0 k l (l.take j) j = some l := by
  intro k
  induction k with
  | zero => intro j _ h; omega
  | succ k ih =>
    intro j hj hk
    unfold musterkit_CopyDeps.l0
    by_cases h : j < l.length
    · rw [if_pos (by omega), if_pos (by omega), if_pos (by rw [List.length_take]; omega), rdDep h, wr1 (by omega)]
      have := ih (j + 1) (by omega) (by omega)
      rw [List.take_succ_eq_append_getElem h] at this
      exact this
    · rw [if_neg (by omega), List.take_of_length_le (by omega)]
theorem copyDeps (l : List S112) (hl : l.length < 8796093022208) (k : Nat) (hk : l.length < k) : musterkit_CopyDeps.f k l = some l := copyDeps_l0 l hl k 0 (Nat.zero_le _) (by omega)

/-- How long the lists of dependencies are, in all. -/
def depLen (l : List S53) : Nat := (l.map fun x => x.f3.f7.length).sum + 1
theorem depLen_lt {l : List S53} {x : S53} (h : x ∈ l) : x.f3.f7.length < depLen l := by
  unfold depLen
  induction l with
  | nil => cases h
  | cons y l ih =>
    rw [List.map_cons, List.sum_cons]
    rcases List.mem_cons.1 h with rfl | h
    · omega
    · have := ih h; omega
theorem copyJob (x : S53) (k : Nat) (hd : x.f3.f7.length < 8796093022208) (hk : x.f3.f7.length < k) :
    musterkit_CopyJob.f k x.f0 x.f1 x.f2 x.f3.f0 x.f3.f1 x.f3.f2 x.f3.f3 x.f3.f4 x.f3.f5 x.f3.f6 x.f3.f7 x.f4 x.f5 x.f6 x.f7 x.f8 x.f9 = some (x.f0, x.f1, x.f2, x.f3.f0, x.f3.f1, x.f3.f2, x.f3.f3, x.f3.f4, x.f3.f5, x.f3.f6, x.f3.f7, x.f4, x.f5, x.f6, x.f7, x.f8, x.f9) := by
  unfold musterkit_CopyJob.f musterkit_CopySpec.f
  rw [copyDeps _ hd k hk]
  rfl
theorem copyJobs_l0 (l : List S53) (hl : l.length < 764877654105) (D : Nat) (hd : ∀ x ∈ l, x.f3.f7.length < 8796093022208 ∧ x.f3.f7.length < D) : ∀ (k j : Nat), j ≤ l.length → l.length - j + D < k → musterkit_CopyJobs.l0 k l (l.take j) j = some l := by
  intro k
  induction k with
  | zero => intro j _ h; omega
  | succ k ih =>
    intro j hj hk
    unfold musterkit_CopyJobs.l0
    by_cases h : j < l.length
    · have hx := hd l[j] (List.getElem_mem h)
      rw [if_pos (by omega), if_pos (by omega), rdJob h, copyJob l[j] k hx.1 (by omega), Option.bind_some, if_pos (by rw [List.length_take]; omega), wr1 (by omega)]
      have := ih (j + 1) (by omega) (by omega)
      rw [List.take_succ_eq_append_getElem h] at this
      exact this
    · rw [if_neg (by omega), List.take_of_length_le (by omega)]
theorem copyJobs (l : List S53) (hl : l.length < 764877654105) (hd : ∀ x ∈ l, x.f3.f7.length < 8796093022208) (k : Nat) (hk : l.length + depLen l < k) : musterkit_CopyJobs.f k l = some l :=
  copyJobs_l0 l hl (depLen l) (fun x hx => ⟨hd x hx, depLen_lt hx⟩) k 0 (Nat.zero_le _) (by omega)
theorem copyJ_calls (js : List S53) (hl : js.length ≤ 1000000) (hj : ∀ x ∈ js, x.f3.f7.length < 8796093022208) (A : Option Addr) (c : Nat) (w : World) (hr : Kd.C k53 w A js.length js) (hc : js.length ≤ c) :
    Calls Try.prog 10 #[.slice A js.length c] w fun e w' => ∃ A' c', e = .returned (.slice A' js.length c') ∧ Kd.R k53 53 w' w.heap.size (fun _ => True) (.slice A' js.length c') js ∧ Below w.heap.size w w' := by
  refine (musterkit_CopyJobs.calls (js.length + depLen js + 1) A c js js w hr hc (copyJobs js (by omega) hj _ (by omega))).mono ?_
  rintro e w' ⟨v, rfl, hs, hb⟩
  have hR := Kd.S_R hs
  obtain ⟨A', c', rfl⟩ := Kd.R_slice hR
  exact ⟨A', c', rfl, hR, hb⟩
/-- The spec that the law's examples ask for. -/
def askS (account : ByteArray) (cores : Int) : S32 := ⟨⟨#[]⟩, account, ⟨#[110, 111, 114, 109, 97, 108]⟩, ⟨#[]⟩, 1, cores, 0, []⟩
set_option maxRecDepth 100000 in
theorem ask_calls (account : ByteArray) (cores : Int) (w : World) : Calls Try.prog 22 #[.string account, .int .i64 cores] w fun e w' => e = .returned (.agg (specC (askS account cores) none 0)) ∧ Below w.heap.size w w' := by
  have HB := Lib.hid (below_alloc (Below.refl w.heap.size w) (.cells #[.string ⟨#[]⟩, .string account, .string ⟨#[110, 111, 114, 109, 97, 108]⟩, .string ⟨#[]⟩, .int .i64 1, .int .i64 cores, .int .i64 0, .slice none 0 0] 32))
  go_enter Try.func22, Try.ntmps22
  go_wp2
  refine bodyPost_ret (results_cell_row rfl _ _ w.heap.size 32 (specC (askS account cores) none 0) (0, 0) _ rfl (heap_alloc_new w _) Try.underlying32 rfl infoSpec) rfl ?_
  exact ⟨rfl, HB.out⟩
end Go.Proofs.Ytcnobkcddgcifaa.PT
