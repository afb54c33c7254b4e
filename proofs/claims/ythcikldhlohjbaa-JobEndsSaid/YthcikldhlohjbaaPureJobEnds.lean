/- A job that has run is told to end when it did. -/
import Derived.Test.YthcikldhlohjbaaPJx12
import Derived.Test.YthcikldhlohjbaaPJOpenJobEnds
set_option linter.unusedVariables false
namespace Go.Proofs.Ythcikldhlohjbaa.Pure
open Go.RowKit Go.Proofs.YthcikldhlohjbaaW.PrintWords Go.Proofs.YthcikldhlohjbaaW.PrintLast Go.Proofs.YthcikldhlohjbaaW.PrintMore Go.Proofs.Ythcikldhlohjbaa.PJ Go.Proofs.Ythcikldhlohjbaa.PJ.JobEndsOpen
theorem u32_wf {n : Int} (h : (Lit.int .u32 n).wf = true) : 0 ≤ n ∧ n < 4294967296 := by
  simp [Lit.wf, IntKind.min, IntKind.max, IntKind.signed, IntKind.bits] at h
  omega
theorem JobEnds (x0 : S43) (x1 : S72) (x2 : S72) (w0 : g43 x0) (w1 : g72 x1) (w2 : g72 x2) : PJ.musterlaw18_JobEnds.f (x0.f0) (x0.f1) (x0.f2) (x0.f3.f0) (x0.f3.f1) (x0.f3.f2) (x0.f3.f3) (x0.f3.f4) (x0.f3.f5) (x0.f3.f6) (x0.f3.f7) (x0.f4) (x0.f5) (x0.f6) (x0.f7) (x0.f8) (x0.f9) (x1.f0) (x1.f1) (x1.f2) (x1.f3) (x2.f0) (x2.f1) (x2.f2) (x2.f3) = some true := by
  unfold PJ.musterlaw18_JobEnds.f
  refine if_pos ⟨u32_wf w0.2.2.2.2.2.2.2.2.1, ?_, u32_wf w1.1⟩
  have h := w0.2.2.2.1.2.2.2.2.2.2.2.1
  omega
end Go.Proofs.Ythcikldhlohjbaa.Pure
