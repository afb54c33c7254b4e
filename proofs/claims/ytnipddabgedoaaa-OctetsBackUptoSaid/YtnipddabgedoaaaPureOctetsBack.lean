import Derived.Test.YtnipddabgedoaaaPKx1
namespace Go.Proofs.Ytnipddabgedoaaa.Pure
open Go.RowKit Go.Proofs.Ytnipddabgedoaaa.PK Go.Proofs.YtnipddabgedoaaaW.PrintWords Go.Proofs.YtnipddabgedoaaaW.PrintLast

/-- Nothing is left over: the law is walked by hand. -/
theorem OctetsBack : musterlaw01_OctetsBack.Pure := trivial

end Go.Proofs.Ytnipddabgedoaaa.Pure
