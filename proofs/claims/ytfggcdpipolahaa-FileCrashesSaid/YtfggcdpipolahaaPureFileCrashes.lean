import Derived.Test.YtfggcdpipolahaaPFFileCrashesx1
namespace Go.Proofs.Ytfggcdpipolahaa.Pure
open Go.RowKit Go.Proofs.Ytfggcdpipolahaa.PFFileCrashes Go.Proofs.YtfggcdpipolahaaW.PrintWords Go.Proofs.YtfggcdpipolahaaW.PrintLast

/-- Nothing is left over: the law is walked by hand. -/
theorem FileCrashes : musterlaw06_FileCrashes.Pure := trivial

end Go.Proofs.Ytfggcdpipolahaa.Pure
