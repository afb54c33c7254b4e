import Derived.Test.YtajlmjmhkhdmdaaPLFrameNumbersx1
namespace Go.Proofs.Ytajlmjmhkhdmdaa.Pure
open Go.RowKit Go.Proofs.Ytajlmjmhkhdmdaa.PLFrameNumbers Go.Proofs.YtajlmjmhkhdmdaaW.PrintWords Go.Proofs.YtajlmjmhkhdmdaaW.PrintLast

/-- Nothing is left over: the law is walked by hand. -/
theorem FrameNumbers : musterlaw03_FrameNumbers.Pure := trivial

end Go.Proofs.Ytajlmjmhkhdmdaa.Pure
