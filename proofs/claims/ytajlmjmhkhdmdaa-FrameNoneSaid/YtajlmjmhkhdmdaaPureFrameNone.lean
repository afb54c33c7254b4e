import Derived.Test.YtajlmjmhkhdmdaaPLx1
namespace Go.Proofs.Ytajlmjmhkhdmdaa.Pure
open Go.RowKit Go.Proofs.Ytajlmjmhkhdmdaa.PL Go.Proofs.YtajlmjmhkhdmdaaW.PrintWords Go.Proofs.YtajlmjmhkhdmdaaW.PrintLast

/-- Nothing is left over: the law is walked by hand. -/
theorem FrameNone : musterlaw03_FrameNone.Pure := trivial

end Go.Proofs.Ytajlmjmhkhdmdaa.Pure
