/- Numbers at indices, and bounds of products and quotients (a copy for seats without depths). -/
import Derived.Test.YtebdokpokbcgjaaDoorRay2
import Derived.Test.YtebdokpokbcgjaaDoorSpeedAt
import Derived.Test.YtebdokpokbcgjaaDoorNum
import Derived.Test.YtebdokpokbcgjaaDoorInts
namespace Go.Proofs.YtebdokpokbcgjaaDoor
set_option linter.unusedSimpArgs false
set_option linter.unusedVariables false
open Go.RowKit

theorem spd_get {xs : List Int} {k : Nat} (h1 : k < xs.length) : xs[k]? = some (spd xs k) := by
  have := spd_some (xs := xs) (k := (k : Int)) (by omega) (by omega)
  simpa using this
end Go.Proofs.YtebdokpokbcgjaaDoor
