import Derived.Test.YtnipddabgedoaaaPLx1
namespace Go.Proofs.Ytnipddabgedoaaa.Pure
open Go.RowKit Go.Proofs.Ytnipddabgedoaaa.PL Go.Proofs.YtnipddabgedoaaaW.PrintWords Go.Proofs.YtnipddabgedoaaaW.PrintLast

/-- Nothing is left over: the law is walked by hand. -/
theorem OctetsTells : musterlaw01_OctetsTells.Pure := trivial

end Go.Proofs.Ytnipddabgedoaaa.Pure
