/- What the cuts around drawn regions need. -/
import Derived.Test.YtjabldjffpjkeaaW1
import Derived.Deep.DeepCutAuto
namespace Go.Proofs.Ytjabldjffpjkeaa
set_option linter.unusedVariables false
open Go.RowKit
theorem ltcheck {W w1 : World} {c : Nat} {P : Prop} (hb : Below W.heap.size W w1) (h : c < W.heap.size) (k : c < W.heap.size → P) : P := k h
end Go.Proofs.Ytjabldjffpjkeaa
