/- However a job is pushed around, it starts at most once. -/
import Derived.Test.YthcikldhlohjbaaPJx12
import Derived.Test.YthcikldhlohjbaaPJOpenJobOnce
set_option linter.unusedVariables false
namespace Go.Proofs.Ythcikldhlohjbaa.Pure
open Go.RowKit Go.Proofs.YthcikldhlohjbaaW.PrintWords Go.Proofs.YthcikldhlohjbaaW.PrintLast Go.Proofs.YthcikldhlohjbaaW.PrintMore Go.Proofs.Ythcikldhlohjbaa.PJ Go.Proofs.Ythcikldhlohjbaa.PJ.JobOnceOpen
theorem u32_wf {n : Int} (h : (Lit.int .u32 n).wf = true) : 0 ≤ n ∧ n < 4294967296 := by
  simp [Lit.wf, IntKind.min, IntKind.max, IntKind.signed, IntKind.bits] at h
  omega
theorem JobOnce (x0 : Int) (x1 : S38) (x2 : List (S72)) (w0 : (Lit.int .i64 x0).wf = true) (w1 : g38 x1) (w2 : (x2.length * 24 ≤ 140737488351232 ∧ ∀ yx2 ∈ x2, g72 yx2)) : PJ.musterlaw18_JobOnce.f x0 (x1.f0) (x1.f1) (x1.f2) (x1.f3) (x1.f4) (x1.f5) (x1.f6) (x1.f7) x2 = some true := by
  unfold PJ.musterlaw18_JobOnce.f
  refine if_pos ⟨?_, List.all_eq_true.2 (fun t ht => decide_eq_true (u32_wf (w2.2 t ht).1))⟩
  have h := w1.2.2.2.2.2.2.2.1
  omega
end Go.Proofs.Ythcikldhlohjbaa.Pure
