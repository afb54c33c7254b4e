import Derived.Test.YtfggcdpipolahaaPFFileSyncedx1
namespace Go.Proofs.Ytfggcdpipolahaa.Pure
open Go.RowKit Go.Proofs.Ytfggcdpipolahaa.PFFileSynced Go.Proofs.YtfggcdpipolahaaW.PrintWords Go.Proofs.YtfggcdpipolahaaW.PrintLast

/-- Nothing is left over: the law is walked by hand. -/
theorem FileSynced : musterlaw06_FileSynced.Pure := trivial

end Go.Proofs.Ytfggcdpipolahaa.Pure
