/- What JobOnce compares: a spec with itself, the zero job with itself; Make with its memory told. (A part of the print PJ.) -/
import Derived.Test.YthcikldhlohjbaaJobFR
import Derived.Test.YthcikldhlohjbaaPJx11
import Derived.Test.YthcikldhlohjbaaEv
set_option linter.unusedVariables false
set_option linter.unusedSimpArgs false
namespace Go.Proofs.Ythcikldhlohjbaa.PJ
open Go.RowKit Go.Proofs.YthcikldhlohjbaaW.PrintWords Go.Proofs.YthcikldhlohjbaaW.PrintLast Go.Proofs.YthcikldhlohjbaaW.PrintMore Go.Proofs.Ythcikldhlohjbaa.Ones Go.Proofs.Ythcikldhlohjbaa.EvK
theorem deps_self_l0 (l : List S104) (hl : l.length < 9000000000000000000) : ∀ d j, l.length - j = d → j ≤ l.length → Ev (fun k => musterkit_SameDeps.l0 k l l (j : Int)) true
  | 0, j, hd, hj => Ev.stp (fun k => by rw [musterkit_SameDeps.l0]) (Ev.neg (by omega) (Ev.one rfl))
  | d + 1, j, hd, hj => by
    refine Ev.stp (fun k => by rw [musterkit_SameDeps.l0]) (Ev.pos (by omega) (Ev.pos (by omega) (Ev.pos (by omega) (Ev.neg (by simp) ?_))))
    rw [wr1 (by omega)]
    exact deps_self_l0 l hl d (j + 1) (by omega) (by omega)
theorem deps_self (l : List S104) (hl : l.length < 9000000000000000000) : Ev (fun k => musterkit_SameDeps.f k l l) true := by
  unfold musterkit_SameDeps.f
  exact Ev.pos rfl (deps_self_l0 l hl _ 0 rfl (by omega))
theorem spec_self (s : S38) (hl : s.f7.length < 9000000000000000000) : Ev (fun k => musterkit_SameSpec.f k s.f0 s.f1 s.f2 s.f3 s.f4 s.f5 s.f6 s.f7 s.f0 s.f1 s.f2 s.f3 s.f4 s.f5 s.f6 s.f7) true := by
  unfold musterkit_SameSpec.f
  exact Ev.pos rfl (Ev.pos rfl (Ev.pos rfl (Ev.pos rfl (Ev.pos rfl (Ev.pos rfl (Ev.pos rfl (Ev.bnd (deps_self s.f7 hl) (Ev.one rfl))))))))
def specC (s : S38) (A : Option Addr) (c : Nat) : Array Value := #[.string s.f0, .string s.f1, .string s.f2, .string s.f3, .int .i64 s.f4, .int .i64 s.f5, .int .i64 s.f6, .slice A s.f7.length c]
theorem sameSpec_calls (s : S38) (hl : s.f7.length < 8796093022208) (A A' : Option Addr) (c c' : Nat) (w : World) (h1 : Kd.C k104 w A s.f7.length s.f7) (h2 : s.f7.length ≤ c) (h3 : Kd.C k104 w A' s.f7.length s.f7) (h4 : s.f7.length ≤ c') :
    Calls Try.prog 52 #[.agg (specC s A c), .agg (specC s A' c')] w fun e w' => e = .returned (.bool true) ∧ Below w.heap.size w w' := by
  obtain ⟨k, hk⟩ := Ev.the (spec_self s (by omega))
  exact musterkit_SameSpec.calls k s.f0 s.f1 s.f2 s.f3 s.f4 s.f5 s.f6 A c s.f7 s.f0 s.f1 s.f2 s.f3 s.f4 s.f5 s.f6 A' c' s.f7 true w h1 h2 h3 h4 hk
set_option maxRecDepth 100000 in
theorem sameZero_f : musterkit_SameJob.f 5 0 0 0 (⟨#[]⟩ : ByteArray) (⟨#[]⟩ : ByteArray) (⟨#[]⟩ : ByteArray) (⟨#[]⟩ : ByteArray) 0 0 0 ([] : List (S104)) 0 0 0 0 0 0 0 0 0 (⟨#[]⟩ : ByteArray) (⟨#[]⟩ : ByteArray) (⟨#[]⟩ : ByteArray) (⟨#[]⟩ : ByteArray) 0 0 0 ([] : List (S104)) 0 0 0 0 0 0 = some true := by decide +kernel
theorem sameZero_calls (A A' : Option Addr) (c c' : Nat) (w : World) (h1 : Kd.C k104 w A 0 []) (h3 : Kd.C k104 w A' 0 []) :
    Calls Try.prog 50 #[jobV z43 A c, jobV z43 A' c'] w fun e w' => e = .returned (.bool true) ∧ Below w.heap.size w w' :=
  musterkit_SameJob.calls 5 0 0 0 (⟨#[]⟩ : ByteArray) (⟨#[]⟩ : ByteArray) (⟨#[]⟩ : ByteArray) (⟨#[]⟩ : ByteArray) 0 0 0 A c [] 0 0 0 0 0 0 0 0 0 (⟨#[]⟩ : ByteArray) (⟨#[]⟩ : ByteArray) (⟨#[]⟩ : ByteArray) (⟨#[]⟩ : ByteArray) 0 0 0 A' c' [] 0 0 0 0 0 0 true w h1 (Nat.zero_le _) h3 (Nat.zero_le _) sameZero_f
theorem make_callsR (id : Int) (s : S38) (now : Int) (hl : s.f7.length < 8796093022208) (A : Option Addr) (c : Nat) (w : World) (hc : s.f7.length ≤ c) (hr : Kd.C k104 w A s.f7.length s.f7) :
    Calls Try.prog 47 #[.int .i64 id, .agg (specC s A c), .int .i64 now] w fun e w' => ∃ A' c', e = .returned (jobV (makeJ id s now) A' c') ∧ Kd.R k104 104 w' w.heap.size (fun _ => True) (.slice A' s.f7.length c') s.f7 ∧ Below w.heap.size w w' := by
  refine (job_Make.calls id s.f0 s.f1 s.f2 s.f3 s.f4 s.f5 s.f6 A c s.f7 now _ _ _ _ _ _ _ _ _ _ _ _ _ _ _ _ _ w hr hc (show job_Make.f id s.f0 s.f1 s.f2 s.f3 s.f4 s.f5 s.f6 s.f7 now = some (id, 0, 0, s.f0, s.f1, s.f2, s.f3, s.f4, s.f5, s.f6, s.f7, 1, now, 0, 0, 0, 0) by unfold job_Make.f api_Dep.f; rw [if_pos hl]; rfl)).mono ?_
  rintro e w' ⟨v, rfl, hr, hb⟩
  obtain ⟨A', c', rfl⟩ := Kd.R_slice hr
  exact ⟨A', c', rfl, hr, hb⟩
theorem spec_info : (Try.prog.info? 38).map (·.size) = some 8 := by kernel_rfl
theorem spec_load {w : World} {b : Nat} {s : S38} {A : Option Addr} {c : Nat} (h : w.heap[b]? = some (.cells (specC s A c) 38 (0, 0))) : (Instr.loadAt 38 (.pointer (some ⟨b, 0, none⟩))).run Try.prog w = .ok (.agg (specC s A c)) w := by
  have h1 := run_loadVar_row (P := Try.prog) w b 38 38 (specC s A c) (0, 0) _ h Try.underlying38 rfl spec_info
  simp only [Instr.loadAt, Instr.sureAddr, Sem.run_bind, Sem.run_pure, Result.andThen_ok, h1]
end Go.Proofs.Ythcikldhlohjbaa.PJ
