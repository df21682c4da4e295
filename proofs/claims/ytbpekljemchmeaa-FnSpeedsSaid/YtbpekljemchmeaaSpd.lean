/- Numbers at indices, and bounds of products and quotients (a copy for seats without depths). -/
import Derived.Test.YtbpekljemchmeaaRay2
import Derived.Test.YtbpekljemchmeaaSpeedAt
import Derived.Test.YtbpekljemchmeaaNum
import Derived.Test.YtbpekljemchmeaaInts
namespace Go.Proofs.Ytbpekljemchmeaa
set_option linter.unusedSimpArgs false
set_option linter.unusedVariables false
open Go.RowKit

theorem spd_get {xs : List Int} {k : Nat} (h1 : k < xs.length) : xs[k]? = some (spd xs k) := by
  have := spd_some (xs := xs) (k := (k : Int)) (by omega) (by omega)
  simpa using this
end Go.Proofs.Ytbpekljemchmeaa
