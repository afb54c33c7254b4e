-- printed by mkrow.py
import Derived.Test.YthcikldhlohjbaaOpen
import Derived.Test.YthcikldhlohjbaaPNx0
set_option linter.unusedVariables false
namespace Go.Proofs.Ythcikldhlohjbaa.PN.NodesTurnsOpen
open Go.RowKit Go.Proofs.YthcikldhlohjbaaW.PrintWords Go.Proofs.Ythcikldhlohjbaa.Open Go.Proofs.Ythcikldhlohjbaa.PN
end Go.Proofs.Ythcikldhlohjbaa.PN.NodesTurnsOpen
