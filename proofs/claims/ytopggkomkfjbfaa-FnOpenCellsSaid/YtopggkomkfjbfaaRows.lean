/-
  No cell of these rows narrows 'for every input' (looked for: loops, veiled, ifaces, maps, wideKeys, modest, calm, conditions, laid).
  DERIVED. THE GIVEN ROWS OF THIS SEAT. 9 by the template 'for every input the law returns true; each argument reads behind the call as it read before'; 0 by the template 'total and deterministic' (their statements: YtopggkomkfjbfaaTotals.lean).
  GIVEN WITH THE SEED: the statements are not yours to turn. If you find one false, say at which input.
  Laid BY PROGRAM, IN A SANDBOX (cutbox-rows.mjs): the forced cells as the released guide's own fill.sh prints them over the translation 540c2251dab2eae4… (all of the seat's roots in one cut). By AI agents, Wed Nov 11 2026. No macro, syntax, notation, axiom, sorry.
-/
import Derived.Test.YtopggkomkfjbfaaChecked
import GoSem.Claim
import GoSem.ClaimJoined
import GoSem.ClaimMapViews
import Derived.JoinedTies
import Derived.KernelRfl
namespace Go.Proofs.Ytopggkomkfjbfaa
/- THE CELL 'sum', in the pinned program and in every row, IS THE sha256 OF THE DUMP (.gsa) THAT YtopggkomkfjbfaaProg.lean LOADS. Nothing in Lean hashes anything: it is a label: what it is worth is what the hold of that sum in a sandbox is worth. -/
noncomputable def Try.pinned : Pinned := { name := "ytopggkomkfjbfaa", sum := "540c2251dab2eae4aec86f60d4e6997c8807cf4cbe7133de64e77b842b9e1b65", checked := Try.checked }
namespace Rows
def none {H : Type} : Left H := { results := [], args := [] }

/-- 'laws.FnExactCellRange': WHATEVER THE INPUT: true; the input reads as it did. -/
def fnExactCellRangeSpec : ChangeSpec := { name := "fnExactCellRange", fn := fun _ => fun
  | [d1, d2, d3, d4, d5] => { results := [.lit (.bool true)], args := [d1, d2, d3, d4, d5] }
  | _ => none }
def fnExactCellRangeRow : OpenClaim := { program := "ytopggkomkfjbfaa", sum := "540c2251dab2eae4aec86f60d4e6997c8807cf4cbe7133de64e77b842b9e1b65", func := "loop.example/g00915/laws.FnExactCellRange", spec := "fnExactCellRange", apart := false }
def FnExactCellRangeSaid : Prop := fnExactCellRangeRow.holds Try.pinned (OpenSpec.ofChange fnExactCellRangeSpec)

/-- ITS FALSE NEIGHBOUR: 'it returns false'. Refute it at one input. -/
def fnExactCellRangeWrong : ChangeSpec := { name := "fnExactCellRange", fn := fun _ => fun
  | [d1, d2, d3, d4, d5] => { results := [.lit (.bool false)], args := [d1, d2, d3, d4, d5] }
  | _ => none }
def FnExactCellRangeWrongFalsely : Prop := fnExactCellRangeRow.holds Try.pinned (OpenSpec.ofChange fnExactCellRangeWrong)

/-- 'laws.FnExactDeepestOf': WHATEVER THE INPUT: true; the input reads as it did. -/
def fnExactDeepestOfSpec : ChangeSpec := { name := "fnExactDeepestOf", fn := fun _ => fun
  | [d1, d2, d3, d4] => { results := [.lit (.bool true)], args := [d1, d2, d3, d4] }
  | _ => none }
def fnExactDeepestOfRow : OpenClaim := { program := "ytopggkomkfjbfaa", sum := "540c2251dab2eae4aec86f60d4e6997c8807cf4cbe7133de64e77b842b9e1b65", func := "loop.example/g00915/laws.FnExactDeepestOf", spec := "fnExactDeepestOf", apart := false }
def FnExactDeepestOfSaid : Prop := fnExactDeepestOfRow.holds Try.pinned (OpenSpec.ofChange fnExactDeepestOfSpec)

/-- ITS FALSE NEIGHBOUR: 'it returns false'. Refute it at one input. -/
def fnExactDeepestOfWrong : ChangeSpec := { name := "fnExactDeepestOf", fn := fun _ => fun
  | [d1, d2, d3, d4] => { results := [.lit (.bool false)], args := [d1, d2, d3, d4] }
  | _ => none }
def FnExactDeepestOfWrongFalsely : Prop := fnExactDeepestOfRow.holds Try.pinned (OpenSpec.ofChange fnExactDeepestOfWrong)

/-- 'laws.FnExactCellVerdict': WHATEVER THE INPUT: true; the input reads as it did. -/
def fnExactCellVerdictSpec : ChangeSpec := { name := "fnExactCellVerdict", fn := fun _ => fun
  | [d1, d2, d3, d4, d5, d6, d7] => { results := [.lit (.bool true)], args := [d1, d2, d3, d4, d5, d6, d7] }
  | _ => none }
def fnExactCellVerdictRow : OpenClaim := { program := "ytopggkomkfjbfaa", sum := "540c2251dab2eae4aec86f60d4e6997c8807cf4cbe7133de64e77b842b9e1b65", func := "loop.example/g00915/laws.FnExactCellVerdict", spec := "fnExactCellVerdict", apart := false }
def FnExactCellVerdictSaid : Prop := fnExactCellVerdictRow.holds Try.pinned (OpenSpec.ofChange fnExactCellVerdictSpec)

/-- ITS FALSE NEIGHBOUR: 'it returns false'. Refute it at one input. -/
def fnExactCellVerdictWrong : ChangeSpec := { name := "fnExactCellVerdict", fn := fun _ => fun
  | [d1, d2, d3, d4, d5, d6, d7] => { results := [.lit (.bool false)], args := [d1, d2, d3, d4, d5, d6, d7] }
  | _ => none }
def FnExactCellVerdictWrongFalsely : Prop := fnExactCellVerdictRow.holds Try.pinned (OpenSpec.ofChange fnExactCellVerdictWrong)

/-- 'laws.FnExactCountCaustics': WHATEVER THE INPUT: true; the input reads as it did. -/
def fnExactCountCausticsSpec : ChangeSpec := { name := "fnExactCountCaustics", fn := fun _ => fun
  | [d1, d2, d3, d4, d5, d6, d7] => { results := [.lit (.bool true)], args := [d1, d2, d3, d4, d5, d6, d7] }
  | _ => none }
def fnExactCountCausticsRow : OpenClaim := { program := "ytopggkomkfjbfaa", sum := "540c2251dab2eae4aec86f60d4e6997c8807cf4cbe7133de64e77b842b9e1b65", func := "loop.example/g00915/laws.FnExactCountCaustics", spec := "fnExactCountCaustics", apart := false }
def FnExactCountCausticsSaid : Prop := fnExactCountCausticsRow.holds Try.pinned (OpenSpec.ofChange fnExactCountCausticsSpec)

/-- ITS FALSE NEIGHBOUR: 'it returns false'. Refute it at one input. -/
def fnExactCountCausticsWrong : ChangeSpec := { name := "fnExactCountCaustics", fn := fun _ => fun
  | [d1, d2, d3, d4, d5, d6, d7] => { results := [.lit (.bool false)], args := [d1, d2, d3, d4, d5, d6, d7] }
  | _ => none }
def FnExactCountCausticsWrongFalsely : Prop := fnExactCountCausticsRow.holds Try.pinned (OpenSpec.ofChange fnExactCountCausticsWrong)

/-- 'laws.FnDeepest': WHATEVER THE INPUT: true; the input reads as it did. -/
def fnDeepestSpec : ChangeSpec := { name := "fnDeepest", fn := fun _ => fun
  | [d] => { results := [.lit (.bool true)], args := [d] }
  | _ => none }
def fnDeepestRow : OpenClaim := { program := "ytopggkomkfjbfaa", sum := "540c2251dab2eae4aec86f60d4e6997c8807cf4cbe7133de64e77b842b9e1b65", func := "loop.example/g00915/laws.FnDeepest", spec := "fnDeepest", apart := false }
def FnDeepestSaid : Prop := fnDeepestRow.holds Try.pinned (OpenSpec.ofChange fnDeepestSpec)

/-- ITS FALSE NEIGHBOUR: 'it returns false'. Refute it at one input. -/
def fnDeepestWrong : ChangeSpec := { name := "fnDeepest", fn := fun _ => fun
  | [d] => { results := [.lit (.bool false)], args := [d] }
  | _ => none }
def FnDeepestWrongFalsely : Prop := fnDeepestRow.holds Try.pinned (OpenSpec.ofChange fnDeepestWrong)

/-- 'laws.FnExactFanVerdicts': WHATEVER THE INPUT: true; the input reads as it did. -/
def fnExactFanVerdictsSpec : ChangeSpec := { name := "fnExactFanVerdicts", fn := fun _ => fun
  | [d1, d2, d3, d4, d5, d6, d7, d8, d9] => { results := [.lit (.bool true)], args := [d1, d2, d3, d4, d5, d6, d7, d8, d9] }
  | _ => none }
def fnExactFanVerdictsRow : OpenClaim := { program := "ytopggkomkfjbfaa", sum := "540c2251dab2eae4aec86f60d4e6997c8807cf4cbe7133de64e77b842b9e1b65", func := "loop.example/g00915/laws.FnExactFanVerdicts", spec := "fnExactFanVerdicts", apart := false }
def FnExactFanVerdictsSaid : Prop := fnExactFanVerdictsRow.holds Try.pinned (OpenSpec.ofChange fnExactFanVerdictsSpec)

/-- ITS FALSE NEIGHBOUR: 'it returns false'. Refute it at one input. -/
def fnExactFanVerdictsWrong : ChangeSpec := { name := "fnExactFanVerdicts", fn := fun _ => fun
  | [d1, d2, d3, d4, d5, d6, d7, d8, d9] => { results := [.lit (.bool false)], args := [d1, d2, d3, d4, d5, d6, d7, d8, d9] }
  | _ => none }
def FnExactFanVerdictsWrongFalsely : Prop := fnExactFanVerdictsRow.holds Try.pinned (OpenSpec.ofChange fnExactFanVerdictsWrong)

/-- 'laws.FnExactOpenCells': WHATEVER THE INPUT: true; the input reads as it did. -/
def fnExactOpenCellsSpec : ChangeSpec := { name := "fnExactOpenCells", fn := fun _ => fun
  | [d1, d2, d3, d4, d5, d6, d7, d8, d9] => { results := [.lit (.bool true)], args := [d1, d2, d3, d4, d5, d6, d7, d8, d9] }
  | _ => none }
def fnExactOpenCellsRow : OpenClaim := { program := "ytopggkomkfjbfaa", sum := "540c2251dab2eae4aec86f60d4e6997c8807cf4cbe7133de64e77b842b9e1b65", func := "loop.example/g00915/laws.FnExactOpenCells", spec := "fnExactOpenCells", apart := false }
def FnExactOpenCellsSaid : Prop := fnExactOpenCellsRow.holds Try.pinned (OpenSpec.ofChange fnExactOpenCellsSpec)

/-- ITS FALSE NEIGHBOUR: 'it returns false'. Refute it at one input. -/
def fnExactOpenCellsWrong : ChangeSpec := { name := "fnExactOpenCells", fn := fun _ => fun
  | [d1, d2, d3, d4, d5, d6, d7, d8, d9] => { results := [.lit (.bool false)], args := [d1, d2, d3, d4, d5, d6, d7, d8, d9] }
  | _ => none }
def FnExactOpenCellsWrongFalsely : Prop := fnExactOpenCellsRow.holds Try.pinned (OpenSpec.ofChange fnExactOpenCellsWrong)

/-- 'laws.FnCells': WHATEVER THE INPUT: true; the input reads as it did. -/
def fnCellsSpec : ChangeSpec := { name := "fnCells", fn := fun _ => fun
  | [d] => { results := [.lit (.bool true)], args := [d] }
  | _ => none }
def fnCellsRow : OpenClaim := { program := "ytopggkomkfjbfaa", sum := "540c2251dab2eae4aec86f60d4e6997c8807cf4cbe7133de64e77b842b9e1b65", func := "loop.example/g00915/laws.FnCells", spec := "fnCells", apart := false }
def FnCellsSaid : Prop := fnCellsRow.holds Try.pinned (OpenSpec.ofChange fnCellsSpec)

/-- ITS FALSE NEIGHBOUR: 'it returns false'. Refute it at one input. -/
def fnCellsWrong : ChangeSpec := { name := "fnCells", fn := fun _ => fun
  | [d] => { results := [.lit (.bool false)], args := [d] }
  | _ => none }
def FnCellsWrongFalsely : Prop := fnCellsRow.holds Try.pinned (OpenSpec.ofChange fnCellsWrong)

/-- 'laws.FnOpenCells': WHATEVER THE INPUT: true; the input reads as it did. -/
def fnOpenCellsSpec : ChangeSpec := { name := "fnOpenCells", fn := fun _ => fun
  | [d] => { results := [.lit (.bool true)], args := [d] }
  | _ => none }
def fnOpenCellsRow : OpenClaim := { program := "ytopggkomkfjbfaa", sum := "540c2251dab2eae4aec86f60d4e6997c8807cf4cbe7133de64e77b842b9e1b65", func := "loop.example/g00915/laws.FnOpenCells", spec := "fnOpenCells", apart := false }
def FnOpenCellsSaid : Prop := fnOpenCellsRow.holds Try.pinned (OpenSpec.ofChange fnOpenCellsSpec)

/-- ITS FALSE NEIGHBOUR: 'it returns false'. Refute it at one input. -/
def fnOpenCellsWrong : ChangeSpec := { name := "fnOpenCells", fn := fun _ => fun
  | [d] => { results := [.lit (.bool false)], args := [d] }
  | _ => none }
def FnOpenCellsWrongFalsely : Prop := fnOpenCellsRow.holds Try.pinned (OpenSpec.ofChange fnOpenCellsWrong)

/- THE SECOND FORM. 'bulk': how many values and letters a reading holds, each counted each time it is reached (what is shared counts as often as it is met; a slice's spare places count too). A statement '..UptoSaid' is the law's where the arguments, and the package variables that the reading takes, are together of bulk at most 1048576: NARROWER than '..Said'. Prove '..Said' where nothing that the law and all that it calls make is longer than what came in: it says more and counts as full. Else prove '..UptoSaid'. A law counts once. -/
mutual
def uptoBulk {H : Type} : DataW H → Nat
  | .lit (.string bytes) => bytes.length + 1
  | .lit _ => 1
  | .nil => 1
  | .ptr d => uptoBulk d + 1
  | .slice elems spare => uptoBulkAll elems + uptoBulkAll spare + 1
  | .agg parts => uptoBulkAll parts + 1
  | .iface _ d => uptoBulk d + 1
  | .map entries => uptoBulkEntries entries + 1
  | .held _ => 1
def uptoBulkAll {H : Type} : List (DataW H) → Nat
  | [] => 0
  | d :: r => uptoBulk d + uptoBulkAll r
def uptoBulkEntries {H : Type} : List (Lit × DataW H) → Nat
  | [] => 0
  | x :: r => uptoBulkEntry x + uptoBulkEntries r
def uptoBulkEntry {H : Type} : Lit × DataW H → Nat
  | (.string bytes, d) => bytes.length + uptoBulk d + 1
  | (_, d) => uptoBulk d + 1
 end
def uptoSmall : (H : Type) → List (DataW H) → Bool := fun _ ds => decide (uptoBulkAll ds ≤ 1048576)
def OpenSpec.upto (s : _root_.Go.ChangeSpec) : _root_.Go.OpenSpec := { _root_.Go.OpenSpec.ofChange s with cond := some uptoSmall }

/-- 'laws.FnExactCellRange', WHERE WHAT IT READS IS OF BULK AT MOST 1048576: true; the input reads as it did. -/
def fnExactCellRangeUptoRow : OpenClaim := { program := "ytopggkomkfjbfaa", sum := "540c2251dab2eae4aec86f60d4e6997c8807cf4cbe7133de64e77b842b9e1b65", func := "loop.example/g00915/laws.FnExactCellRange", spec := "fnExactCellRange", apart := false, narrowed := true }
def FnExactCellRangeUptoSaid : Prop := fnExactCellRangeUptoRow.holds Try.pinned (OpenSpec.upto fnExactCellRangeSpec)

/-- 'laws.FnExactDeepestOf', WHERE WHAT IT READS IS OF BULK AT MOST 1048576: true; the input reads as it did. -/
def fnExactDeepestOfUptoRow : OpenClaim := { program := "ytopggkomkfjbfaa", sum := "540c2251dab2eae4aec86f60d4e6997c8807cf4cbe7133de64e77b842b9e1b65", func := "loop.example/g00915/laws.FnExactDeepestOf", spec := "fnExactDeepestOf", apart := false, narrowed := true }
def FnExactDeepestOfUptoSaid : Prop := fnExactDeepestOfUptoRow.holds Try.pinned (OpenSpec.upto fnExactDeepestOfSpec)

/-- 'laws.FnExactCellVerdict', WHERE WHAT IT READS IS OF BULK AT MOST 1048576: true; the input reads as it did. -/
def fnExactCellVerdictUptoRow : OpenClaim := { program := "ytopggkomkfjbfaa", sum := "540c2251dab2eae4aec86f60d4e6997c8807cf4cbe7133de64e77b842b9e1b65", func := "loop.example/g00915/laws.FnExactCellVerdict", spec := "fnExactCellVerdict", apart := false, narrowed := true }
def FnExactCellVerdictUptoSaid : Prop := fnExactCellVerdictUptoRow.holds Try.pinned (OpenSpec.upto fnExactCellVerdictSpec)

/-- 'laws.FnExactCountCaustics', WHERE WHAT IT READS IS OF BULK AT MOST 1048576: true; the input reads as it did. -/
def fnExactCountCausticsUptoRow : OpenClaim := { program := "ytopggkomkfjbfaa", sum := "540c2251dab2eae4aec86f60d4e6997c8807cf4cbe7133de64e77b842b9e1b65", func := "loop.example/g00915/laws.FnExactCountCaustics", spec := "fnExactCountCaustics", apart := false, narrowed := true }
def FnExactCountCausticsUptoSaid : Prop := fnExactCountCausticsUptoRow.holds Try.pinned (OpenSpec.upto fnExactCountCausticsSpec)

/-- 'laws.FnDeepest', WHERE WHAT IT READS IS OF BULK AT MOST 1048576: true; the input reads as it did. -/
def fnDeepestUptoRow : OpenClaim := { program := "ytopggkomkfjbfaa", sum := "540c2251dab2eae4aec86f60d4e6997c8807cf4cbe7133de64e77b842b9e1b65", func := "loop.example/g00915/laws.FnDeepest", spec := "fnDeepest", apart := false, narrowed := true }
def FnDeepestUptoSaid : Prop := fnDeepestUptoRow.holds Try.pinned (OpenSpec.upto fnDeepestSpec)

/-- 'laws.FnExactFanVerdicts', WHERE WHAT IT READS IS OF BULK AT MOST 1048576: true; the input reads as it did. -/
def fnExactFanVerdictsUptoRow : OpenClaim := { program := "ytopggkomkfjbfaa", sum := "540c2251dab2eae4aec86f60d4e6997c8807cf4cbe7133de64e77b842b9e1b65", func := "loop.example/g00915/laws.FnExactFanVerdicts", spec := "fnExactFanVerdicts", apart := false, narrowed := true }
def FnExactFanVerdictsUptoSaid : Prop := fnExactFanVerdictsUptoRow.holds Try.pinned (OpenSpec.upto fnExactFanVerdictsSpec)

/-- 'laws.FnExactOpenCells', WHERE WHAT IT READS IS OF BULK AT MOST 1048576: true; the input reads as it did. -/
def fnExactOpenCellsUptoRow : OpenClaim := { program := "ytopggkomkfjbfaa", sum := "540c2251dab2eae4aec86f60d4e6997c8807cf4cbe7133de64e77b842b9e1b65", func := "loop.example/g00915/laws.FnExactOpenCells", spec := "fnExactOpenCells", apart := false, narrowed := true }
def FnExactOpenCellsUptoSaid : Prop := fnExactOpenCellsUptoRow.holds Try.pinned (OpenSpec.upto fnExactOpenCellsSpec)

/-- 'laws.FnCells', WHERE WHAT IT READS IS OF BULK AT MOST 1048576: true; the input reads as it did. -/
def fnCellsUptoRow : OpenClaim := { program := "ytopggkomkfjbfaa", sum := "540c2251dab2eae4aec86f60d4e6997c8807cf4cbe7133de64e77b842b9e1b65", func := "loop.example/g00915/laws.FnCells", spec := "fnCells", apart := false, narrowed := true }
def FnCellsUptoSaid : Prop := fnCellsUptoRow.holds Try.pinned (OpenSpec.upto fnCellsSpec)

/-- 'laws.FnOpenCells', WHERE WHAT IT READS IS OF BULK AT MOST 1048576: true; the input reads as it did. -/
def fnOpenCellsUptoRow : OpenClaim := { program := "ytopggkomkfjbfaa", sum := "540c2251dab2eae4aec86f60d4e6997c8807cf4cbe7133de64e77b842b9e1b65", func := "loop.example/g00915/laws.FnOpenCells", spec := "fnOpenCells", apart := false, narrowed := true }
def FnOpenCellsUptoSaid : Prop := fnOpenCellsUptoRow.holds Try.pinned (OpenSpec.upto fnOpenCellsSpec)

end Rows
end Go.Proofs.Ytopggkomkfjbfaa
