/- What the cuts around drawn regions need. -/
import Derived.Test.YtopggkomkfjbfaaW1
namespace Go.Proofs.Ytopggkomkfjbfaa
set_option linter.unusedVariables false
open Go.RowKit
theorem eqInterval_same2 (a b : Int) (w : World) :
    Calls Try.prog 17 #[ivV a b, ivV a b] w fun e w' => e = .returned (.bool true) ∧ Below w.heap.size w w' :=
  (eqInterval_any a b a b w).mono fun e w' ⟨h1, h2⟩ => ⟨by rw [h1]; simp, h2⟩
end Go.Proofs.Ytopggkomkfjbfaa
