import Derived.Test.YtfggcdpipolahaaPFFileNonex1
namespace Go.Proofs.Ytfggcdpipolahaa.Pure
open Go.RowKit Go.Proofs.Ytfggcdpipolahaa.PFFileNone Go.Proofs.YtfggcdpipolahaaW.PrintWords Go.Proofs.YtfggcdpipolahaaW.PrintLast

/-- Nothing is left over: the law is walked by hand. -/
theorem FileNone : musterlaw06_FileNone.Pure := trivial

end Go.Proofs.Ytfggcdpipolahaa.Pure
