import Derived.Test.YtnipddabgedoaaaPTx1
namespace Go.Proofs.Ytnipddabgedoaaa.Pure
open Go.RowKit Go.Proofs.Ytnipddabgedoaaa.PT Go.Proofs.YtnipddabgedoaaaW.PrintWords Go.Proofs.YtnipddabgedoaaaW.PrintLast

/-- Nothing is left over: the law is walked by hand. -/
theorem SumsTells : musterlaw02_SumsTells.Pure := trivial

end Go.Proofs.Ytnipddabgedoaaa.Pure
