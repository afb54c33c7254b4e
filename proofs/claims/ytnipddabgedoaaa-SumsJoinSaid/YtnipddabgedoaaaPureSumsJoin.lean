import Derived.Test.YtnipddabgedoaaaPJx1
namespace Go.Proofs.Ytnipddabgedoaaa.Pure
open Go.RowKit Go.Proofs.Ytnipddabgedoaaa.PJ Go.Proofs.YtnipddabgedoaaaW.PrintWords Go.Proofs.YtnipddabgedoaaaW.PrintLast

/-- Nothing is left over: the law is walked by hand. -/
theorem SumsJoin : musterlaw02_SumsJoin.Pure := trivial

end Go.Proofs.Ytnipddabgedoaaa.Pure
