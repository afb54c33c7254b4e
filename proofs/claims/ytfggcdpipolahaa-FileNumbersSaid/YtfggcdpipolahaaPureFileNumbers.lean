import Derived.Test.YtfggcdpipolahaaPFFileNumbersx1
namespace Go.Proofs.Ytfggcdpipolahaa.Pure
open Go.RowKit Go.Proofs.Ytfggcdpipolahaa.PFFileNumbers Go.Proofs.YtfggcdpipolahaaW.PrintWords Go.Proofs.YtfggcdpipolahaaW.PrintLast

/-- Nothing is left over: the law is walked by hand. -/
theorem FileNumbers : musterlaw06_FileNumbers.Pure := trivial

end Go.Proofs.Ytfggcdpipolahaa.Pure
