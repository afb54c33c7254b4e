import Derived.Test.YtnipddabgedoaaaPNx1
namespace Go.Proofs.Ytnipddabgedoaaa.Pure
open Go.RowKit Go.Proofs.Ytnipddabgedoaaa.PN Go.Proofs.YtnipddabgedoaaaW.PrintWords Go.Proofs.YtnipddabgedoaaaW.PrintLast

/-- Nothing is left over: the law is walked by hand. -/
theorem SumsNumbers : musterlaw02_SumsNumbers.Pure := trivial

end Go.Proofs.Ytnipddabgedoaaa.Pure
