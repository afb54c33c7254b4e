import Derived.Test.YtfggcdpipolahaaPFFileSparesx1
namespace Go.Proofs.Ytfggcdpipolahaa.Pure
open Go.RowKit Go.Proofs.Ytfggcdpipolahaa.PFFileSpares Go.Proofs.YtfggcdpipolahaaW.PrintWords Go.Proofs.YtfggcdpipolahaaW.PrintLast

/-- Nothing is left over: the law is walked by hand. -/
theorem FileSpares : musterlaw06_FileSpares.Pure := trivial

end Go.Proofs.Ytfggcdpipolahaa.Pure
