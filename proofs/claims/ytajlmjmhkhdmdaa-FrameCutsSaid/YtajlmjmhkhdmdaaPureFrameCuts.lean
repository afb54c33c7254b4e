import Derived.Test.YtajlmjmhkhdmdaaPLFrameCutsx1
namespace Go.Proofs.Ytajlmjmhkhdmdaa.Pure
open Go.RowKit Go.Proofs.Ytajlmjmhkhdmdaa.PLFrameCuts Go.Proofs.YtajlmjmhkhdmdaaW.PrintWords Go.Proofs.YtajlmjmhkhdmdaaW.PrintLast

/-- Nothing is left over: the law is walked by hand. -/
theorem FrameCuts : musterlaw03_FrameCuts.Pure := trivial

end Go.Proofs.Ytajlmjmhkhdmdaa.Pure
