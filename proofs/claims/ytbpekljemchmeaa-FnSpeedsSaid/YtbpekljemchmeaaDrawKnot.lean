/- The draw of a profile and one of its knots. -/
import Derived.Test.YtbpekljemchmeaaDraw04
import Derived.Deep.RegionHeld3
import Derived.BigRegion
namespace Go.Proofs.Ytbpekljemchmeaa
set_option linter.unusedSimpArgs false
set_option linter.unusedVariables false
open Go.RowKit

end Go.Proofs.Ytbpekljemchmeaa
