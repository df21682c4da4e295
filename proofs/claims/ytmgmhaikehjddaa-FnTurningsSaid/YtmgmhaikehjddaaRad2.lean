/- The radius of the circle in a layer, by the reference. -/
import Derived.Test.YtmgmhaikehjddaaRad
namespace Go.Proofs.Ytmgmhaikehjddaa
set_option linter.unusedSimpArgs false
set_option linter.unusedVariables false
open Go.RowKit

theorem specAbs_eq (a T : Int) (w : World) (h1 : -9000000000000000000 ≤ a) (h2 : a ≤ 9000000000000000000) (hT : (a.natAbs : Int) = T) :
    Calls Try.prog 211 #[.int .i64 a] w fun e w' => e = .returned (.int .i64 T) ∧ w = w' := by
  subst hT; exact specAbs_any a w h1 h2
end Go.Proofs.Ytmgmhaikehjddaa
