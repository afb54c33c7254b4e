import Derived.Test.YtnipddabgedoaaaPMx1
namespace Go.Proofs.Ytnipddabgedoaaa.Pure
open Go.RowKit Go.Proofs.Ytnipddabgedoaaa.PM Go.Proofs.YtnipddabgedoaaaW.PrintWords Go.Proofs.YtnipddabgedoaaaW.PrintLast

/-- Nothing is left over: the law is walked by hand. -/
theorem OctetsNumbers : musterlaw01_OctetsNumbers.Pure := trivial

end Go.Proofs.Ytnipddabgedoaaa.Pure
