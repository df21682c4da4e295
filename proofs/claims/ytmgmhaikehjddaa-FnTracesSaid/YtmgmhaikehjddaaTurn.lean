/- The turning speed, by the program and by the reference. -/
import Derived.Test.YtmgmhaikehjddaaState
import Derived.Test.YtmgmhaikehjddaaRatio
import Derived.Test.YtmgmhaikehjddaaCut
namespace Go.Proofs.Ytmgmhaikehjddaa
set_option linter.unusedSimpArgs false
set_option linter.unusedVariables false
open Go.RowKit

@[irreducible] def tsN (ds ss : List Int) (src co si hy : Int) : Int := if rayE ds ss src co si hy 0 = 0 then ratN (hy * spd ss src) co else 0
@[irreducible] def tsD (ds ss : List Int) (src co si hy : Int) : Int := if rayE ds ss src co si hy 0 = 0 then ratD (hy * spd ss src) co else 0
@[irreducible] def tsC (ds ss : List Int) (src co si hy : Int) : Int := if rayE ds ss src co si hy 0 = 0 then ratC (hy * spd ss src) co 3 else rayE ds ss src co si hy 0

end Go.Proofs.Ytmgmhaikehjddaa
