/-
  No cell of these rows narrows 'for every input' (looked for: loops, veiled, ifaces, maps, wideKeys, modest, calm, conditions, laid).
  DERIVED. THE GIVEN ROWS OF THIS SEAT. 12 by the template 'for every input the law returns true; each argument reads behind the call as it read before'; 0 by the template 'total and deterministic' (their statements: YtlilfjbhilkngaaTotals.lean).
  GIVEN WITH THE SEED: the statements are not yours to turn. If you find one false, say at which input.
  Laid BY PROGRAM, IN A SANDBOX (cutbox-rows.mjs): the forced cells as the released guide's own fill.sh prints them over the translation cf00638bdd17d406… (all of the seat's roots in one cut). By AI agents, Wed Nov 11 2026. No macro, syntax, notation, axiom, sorry.
-/
import Derived.Test.YtlilfjbhilkngaaChecked
import GoSem.Claim
import GoSem.ClaimJoined
import GoSem.ClaimMapViews
import Derived.JoinedTies
import Derived.KernelRfl
namespace Go.Proofs.Ytlilfjbhilkngaa
/- THE CELL 'sum', in the pinned program and in every row, IS THE sha256 OF THE DUMP (.gsa) THAT YtlilfjbhilkngaaProg.lean LOADS. Nothing in Lean hashes anything: it is a label: what it is worth is what the hold of that sum in a sandbox is worth. -/
noncomputable def Try.pinned : Pinned := { name := "ytlilfjbhilkngaa", sum := "cf00638bdd17d4064f9c4e9b35ecb2c228f4c43a8a10d63009883dc58b7214a7", checked := Try.checked }
namespace Rows
def none {H : Type} : Left H := { results := [], args := [] }

/-- 'laws.FnExactCrossRange': WHATEVER THE INPUT: true; the input reads as it did. -/
def fnExactCrossRangeSpec : ChangeSpec := { name := "fnExactCrossRange", fn := fun _ => fun
  | [d1, d2, d3, d4] => { results := [.lit (.bool true)], args := [d1, d2, d3, d4] }
  | _ => none }
def fnExactCrossRangeRow : OpenClaim := { program := "ytlilfjbhilkngaa", sum := "cf00638bdd17d4064f9c4e9b35ecb2c228f4c43a8a10d63009883dc58b7214a7", func := "loop.example/g00915/laws.FnExactCrossRange", spec := "fnExactCrossRange", apart := false }
def FnExactCrossRangeSaid : Prop := fnExactCrossRangeRow.holds Try.pinned (OpenSpec.ofChange fnExactCrossRangeSpec)

/-- ITS FALSE NEIGHBOUR: 'it returns false'. Refute it at one input. -/
def fnExactCrossRangeWrong : ChangeSpec := { name := "fnExactCrossRange", fn := fun _ => fun
  | [d1, d2, d3, d4] => { results := [.lit (.bool false)], args := [d1, d2, d3, d4] }
  | _ => none }
def FnExactCrossRangeWrongFalsely : Prop := fnExactCrossRangeRow.holds Try.pinned (OpenSpec.ofChange fnExactCrossRangeWrong)

/-- 'laws.FnExactTurnRange': WHATEVER THE INPUT: true; the input reads as it did. -/
def fnExactTurnRangeSpec : ChangeSpec := { name := "fnExactTurnRange", fn := fun _ => fun
  | [d1, d2, d3, d4, d5] => { results := [.lit (.bool true)], args := [d1, d2, d3, d4, d5] }
  | _ => none }
def fnExactTurnRangeRow : OpenClaim := { program := "ytlilfjbhilkngaa", sum := "cf00638bdd17d4064f9c4e9b35ecb2c228f4c43a8a10d63009883dc58b7214a7", func := "loop.example/g00915/laws.FnExactTurnRange", spec := "fnExactTurnRange", apart := false }
def FnExactTurnRangeSaid : Prop := fnExactTurnRangeRow.holds Try.pinned (OpenSpec.ofChange fnExactTurnRangeSpec)

/-- ITS FALSE NEIGHBOUR: 'it returns false'. Refute it at one input. -/
def fnExactTurnRangeWrong : ChangeSpec := { name := "fnExactTurnRange", fn := fun _ => fun
  | [d1, d2, d3, d4, d5] => { results := [.lit (.bool false)], args := [d1, d2, d3, d4, d5] }
  | _ => none }
def FnExactTurnRangeWrongFalsely : Prop := fnExactTurnRangeRow.holds Try.pinned (OpenSpec.ofChange fnExactTurnRangeWrong)

/-- 'laws.FnExactPassLayer': WHATEVER THE INPUT: true; the input reads as it did. -/
def fnExactPassLayerSpec : ChangeSpec := { name := "fnExactPassLayer", fn := fun _ => fun
  | [d1, d2, d3, d4, d5] => { results := [.lit (.bool true)], args := [d1, d2, d3, d4, d5] }
  | _ => none }
def fnExactPassLayerRow : OpenClaim := { program := "ytlilfjbhilkngaa", sum := "cf00638bdd17d4064f9c4e9b35ecb2c228f4c43a8a10d63009883dc58b7214a7", func := "loop.example/g00915/laws.FnExactPassLayer", spec := "fnExactPassLayer", apart := false }
def FnExactPassLayerSaid : Prop := fnExactPassLayerRow.holds Try.pinned (OpenSpec.ofChange fnExactPassLayerSpec)

/-- ITS FALSE NEIGHBOUR: 'it returns false'. Refute it at one input. -/
def fnExactPassLayerWrong : ChangeSpec := { name := "fnExactPassLayer", fn := fun _ => fun
  | [d1, d2, d3, d4, d5] => { results := [.lit (.bool false)], args := [d1, d2, d3, d4, d5] }
  | _ => none }
def FnExactPassLayerWrongFalsely : Prop := fnExactPassLayerRow.holds Try.pinned (OpenSpec.ofChange fnExactPassLayerWrong)

/-- 'laws.FnExactStepRay': WHATEVER THE INPUT: true; the input reads as it did. -/
def fnExactStepRaySpec : ChangeSpec := { name := "fnExactStepRay", fn := fun _ => fun
  | [d1, d2, d3, d4] => { results := [.lit (.bool true)], args := [d1, d2, d3, d4] }
  | _ => none }
def fnExactStepRayRow : OpenClaim := { program := "ytlilfjbhilkngaa", sum := "cf00638bdd17d4064f9c4e9b35ecb2c228f4c43a8a10d63009883dc58b7214a7", func := "loop.example/g00915/laws.FnExactStepRay", spec := "fnExactStepRay", apart := false }
def FnExactStepRaySaid : Prop := fnExactStepRayRow.holds Try.pinned (OpenSpec.ofChange fnExactStepRaySpec)

/-- ITS FALSE NEIGHBOUR: 'it returns false'. Refute it at one input. -/
def fnExactStepRayWrong : ChangeSpec := { name := "fnExactStepRay", fn := fun _ => fun
  | [d1, d2, d3, d4] => { results := [.lit (.bool false)], args := [d1, d2, d3, d4] }
  | _ => none }
def FnExactStepRayWrongFalsely : Prop := fnExactStepRayRow.holds Try.pinned (OpenSpec.ofChange fnExactStepRayWrong)

/-- 'laws.FnExactTraceRay': WHATEVER THE INPUT: true; the input reads as it did. -/
def fnExactTraceRaySpec : ChangeSpec := { name := "fnExactTraceRay", fn := fun _ => fun
  | [d1, d2, d3, d4] => { results := [.lit (.bool true)], args := [d1, d2, d3, d4] }
  | _ => none }
def fnExactTraceRayRow : OpenClaim := { program := "ytlilfjbhilkngaa", sum := "cf00638bdd17d4064f9c4e9b35ecb2c228f4c43a8a10d63009883dc58b7214a7", func := "loop.example/g00915/laws.FnExactTraceRay", spec := "fnExactTraceRay", apart := false }
def FnExactTraceRaySaid : Prop := fnExactTraceRayRow.holds Try.pinned (OpenSpec.ofChange fnExactTraceRaySpec)

/-- ITS FALSE NEIGHBOUR: 'it returns false'. Refute it at one input. -/
def fnExactTraceRayWrong : ChangeSpec := { name := "fnExactTraceRay", fn := fun _ => fun
  | [d1, d2, d3, d4] => { results := [.lit (.bool false)], args := [d1, d2, d3, d4] }
  | _ => none }
def FnExactTraceRayWrongFalsely : Prop := fnExactTraceRayRow.holds Try.pinned (OpenSpec.ofChange fnExactTraceRayWrong)

/-- 'laws.FnExactCellRange': WHATEVER THE INPUT: true; the input reads as it did. -/
def fnExactCellRangeSpec : ChangeSpec := { name := "fnExactCellRange", fn := fun _ => fun
  | [d1, d2, d3, d4, d5] => { results := [.lit (.bool true)], args := [d1, d2, d3, d4, d5] }
  | _ => none }
def fnExactCellRangeRow : OpenClaim := { program := "ytlilfjbhilkngaa", sum := "cf00638bdd17d4064f9c4e9b35ecb2c228f4c43a8a10d63009883dc58b7214a7", func := "loop.example/g00915/laws.FnExactCellRange", spec := "fnExactCellRange", apart := false }
def FnExactCellRangeSaid : Prop := fnExactCellRangeRow.holds Try.pinned (OpenSpec.ofChange fnExactCellRangeSpec)

/-- ITS FALSE NEIGHBOUR: 'it returns false'. Refute it at one input. -/
def fnExactCellRangeWrong : ChangeSpec := { name := "fnExactCellRange", fn := fun _ => fun
  | [d1, d2, d3, d4, d5] => { results := [.lit (.bool false)], args := [d1, d2, d3, d4, d5] }
  | _ => none }
def FnExactCellRangeWrongFalsely : Prop := fnExactCellRangeRow.holds Try.pinned (OpenSpec.ofChange fnExactCellRangeWrong)

/-- 'laws.FnExactRangesOf': WHATEVER THE INPUT: true; the input reads as it did. -/
def fnExactRangesOfSpec : ChangeSpec := { name := "fnExactRangesOf", fn := fun _ => fun
  | [d1, d2, d3, d4] => { results := [.lit (.bool true)], args := [d1, d2, d3, d4] }
  | _ => none }
def fnExactRangesOfRow : OpenClaim := { program := "ytlilfjbhilkngaa", sum := "cf00638bdd17d4064f9c4e9b35ecb2c228f4c43a8a10d63009883dc58b7214a7", func := "loop.example/g00915/laws.FnExactRangesOf", spec := "fnExactRangesOf", apart := false }
def FnExactRangesOfSaid : Prop := fnExactRangesOfRow.holds Try.pinned (OpenSpec.ofChange fnExactRangesOfSpec)

/-- ITS FALSE NEIGHBOUR: 'it returns false'. Refute it at one input. -/
def fnExactRangesOfWrong : ChangeSpec := { name := "fnExactRangesOf", fn := fun _ => fun
  | [d1, d2, d3, d4] => { results := [.lit (.bool false)], args := [d1, d2, d3, d4] }
  | _ => none }
def FnExactRangesOfWrongFalsely : Prop := fnExactRangesOfRow.holds Try.pinned (OpenSpec.ofChange fnExactRangesOfWrong)

/-- 'laws.FnExactDeepestOf': WHATEVER THE INPUT: true; the input reads as it did. -/
def fnExactDeepestOfSpec : ChangeSpec := { name := "fnExactDeepestOf", fn := fun _ => fun
  | [d1, d2, d3, d4] => { results := [.lit (.bool true)], args := [d1, d2, d3, d4] }
  | _ => none }
def fnExactDeepestOfRow : OpenClaim := { program := "ytlilfjbhilkngaa", sum := "cf00638bdd17d4064f9c4e9b35ecb2c228f4c43a8a10d63009883dc58b7214a7", func := "loop.example/g00915/laws.FnExactDeepestOf", spec := "fnExactDeepestOf", apart := false }
def FnExactDeepestOfSaid : Prop := fnExactDeepestOfRow.holds Try.pinned (OpenSpec.ofChange fnExactDeepestOfSpec)

/-- ITS FALSE NEIGHBOUR: 'it returns false'. Refute it at one input. -/
def fnExactDeepestOfWrong : ChangeSpec := { name := "fnExactDeepestOf", fn := fun _ => fun
  | [d1, d2, d3, d4] => { results := [.lit (.bool false)], args := [d1, d2, d3, d4] }
  | _ => none }
def FnExactDeepestOfWrongFalsely : Prop := fnExactDeepestOfRow.holds Try.pinned (OpenSpec.ofChange fnExactDeepestOfWrong)

/-- 'laws.FnExactCellVerdict': WHATEVER THE INPUT: true; the input reads as it did. -/
def fnExactCellVerdictSpec : ChangeSpec := { name := "fnExactCellVerdict", fn := fun _ => fun
  | [d1, d2, d3, d4, d5, d6, d7] => { results := [.lit (.bool true)], args := [d1, d2, d3, d4, d5, d6, d7] }
  | _ => none }
def fnExactCellVerdictRow : OpenClaim := { program := "ytlilfjbhilkngaa", sum := "cf00638bdd17d4064f9c4e9b35ecb2c228f4c43a8a10d63009883dc58b7214a7", func := "loop.example/g00915/laws.FnExactCellVerdict", spec := "fnExactCellVerdict", apart := false }
def FnExactCellVerdictSaid : Prop := fnExactCellVerdictRow.holds Try.pinned (OpenSpec.ofChange fnExactCellVerdictSpec)

/-- ITS FALSE NEIGHBOUR: 'it returns false'. Refute it at one input. -/
def fnExactCellVerdictWrong : ChangeSpec := { name := "fnExactCellVerdict", fn := fun _ => fun
  | [d1, d2, d3, d4, d5, d6, d7] => { results := [.lit (.bool false)], args := [d1, d2, d3, d4, d5, d6, d7] }
  | _ => none }
def FnExactCellVerdictWrongFalsely : Prop := fnExactCellVerdictRow.holds Try.pinned (OpenSpec.ofChange fnExactCellVerdictWrong)

/-- 'laws.FnExactCountCaustics': WHATEVER THE INPUT: true; the input reads as it did. -/
def fnExactCountCausticsSpec : ChangeSpec := { name := "fnExactCountCaustics", fn := fun _ => fun
  | [d1, d2, d3, d4, d5, d6, d7] => { results := [.lit (.bool true)], args := [d1, d2, d3, d4, d5, d6, d7] }
  | _ => none }
def fnExactCountCausticsRow : OpenClaim := { program := "ytlilfjbhilkngaa", sum := "cf00638bdd17d4064f9c4e9b35ecb2c228f4c43a8a10d63009883dc58b7214a7", func := "loop.example/g00915/laws.FnExactCountCaustics", spec := "fnExactCountCaustics", apart := false }
def FnExactCountCausticsSaid : Prop := fnExactCountCausticsRow.holds Try.pinned (OpenSpec.ofChange fnExactCountCausticsSpec)

/-- ITS FALSE NEIGHBOUR: 'it returns false'. Refute it at one input. -/
def fnExactCountCausticsWrong : ChangeSpec := { name := "fnExactCountCaustics", fn := fun _ => fun
  | [d1, d2, d3, d4, d5, d6, d7] => { results := [.lit (.bool false)], args := [d1, d2, d3, d4, d5, d6, d7] }
  | _ => none }
def FnExactCountCausticsWrongFalsely : Prop := fnExactCountCausticsRow.holds Try.pinned (OpenSpec.ofChange fnExactCountCausticsWrong)

/-- 'laws.FnExactFanVerdicts': WHATEVER THE INPUT: true; the input reads as it did. -/
def fnExactFanVerdictsSpec : ChangeSpec := { name := "fnExactFanVerdicts", fn := fun _ => fun
  | [d1, d2, d3, d4, d5, d6, d7, d8, d9] => { results := [.lit (.bool true)], args := [d1, d2, d3, d4, d5, d6, d7, d8, d9] }
  | _ => none }
def fnExactFanVerdictsRow : OpenClaim := { program := "ytlilfjbhilkngaa", sum := "cf00638bdd17d4064f9c4e9b35ecb2c228f4c43a8a10d63009883dc58b7214a7", func := "loop.example/g00915/laws.FnExactFanVerdicts", spec := "fnExactFanVerdicts", apart := false }
def FnExactFanVerdictsSaid : Prop := fnExactFanVerdictsRow.holds Try.pinned (OpenSpec.ofChange fnExactFanVerdictsSpec)

/-- ITS FALSE NEIGHBOUR: 'it returns false'. Refute it at one input. -/
def fnExactFanVerdictsWrong : ChangeSpec := { name := "fnExactFanVerdicts", fn := fun _ => fun
  | [d1, d2, d3, d4, d5, d6, d7, d8, d9] => { results := [.lit (.bool false)], args := [d1, d2, d3, d4, d5, d6, d7, d8, d9] }
  | _ => none }
def FnExactFanVerdictsWrongFalsely : Prop := fnExactFanVerdictsRow.holds Try.pinned (OpenSpec.ofChange fnExactFanVerdictsWrong)

/-- 'laws.FnExactOpenCells': WHATEVER THE INPUT: true; the input reads as it did. -/
def fnExactOpenCellsSpec : ChangeSpec := { name := "fnExactOpenCells", fn := fun _ => fun
  | [d1, d2, d3, d4, d5, d6, d7, d8, d9] => { results := [.lit (.bool true)], args := [d1, d2, d3, d4, d5, d6, d7, d8, d9] }
  | _ => none }
def fnExactOpenCellsRow : OpenClaim := { program := "ytlilfjbhilkngaa", sum := "cf00638bdd17d4064f9c4e9b35ecb2c228f4c43a8a10d63009883dc58b7214a7", func := "loop.example/g00915/laws.FnExactOpenCells", spec := "fnExactOpenCells", apart := false }
def FnExactOpenCellsSaid : Prop := fnExactOpenCellsRow.holds Try.pinned (OpenSpec.ofChange fnExactOpenCellsSpec)

/-- ITS FALSE NEIGHBOUR: 'it returns false'. Refute it at one input. -/
def fnExactOpenCellsWrong : ChangeSpec := { name := "fnExactOpenCells", fn := fun _ => fun
  | [d1, d2, d3, d4, d5, d6, d7, d8, d9] => { results := [.lit (.bool false)], args := [d1, d2, d3, d4, d5, d6, d7, d8, d9] }
  | _ => none }
def FnExactOpenCellsWrongFalsely : Prop := fnExactOpenCellsRow.holds Try.pinned (OpenSpec.ofChange fnExactOpenCellsWrong)

/- THE SECOND FORM. 'bulk': how many values and letters a reading holds, each counted each time it is reached (what is shared counts as often as it is met; a slice's spare places count too). A statement '..UptoSaid' is the law's where the arguments, and the package variables that the reading takes, are together of bulk at most 1048576: NARROWER than '..Said'. Prove '..Said' where nothing that the law and all that it calls make is longer than what came in: it says more and counts as full. Else prove '..UptoSaid'. A law counts once. -/
mutual
def uptoBulk {H : Type} : DataW H → Nat
  | .lit (.string bytes) => bytes.length + 1
  | .lit _ => 1
  | .nil => 1
  | .ptr d => uptoBulk d + 1
  | .slice elems spare => uptoBulkAll elems + uptoBulkAll spare + 1
  | .agg parts => uptoBulkAll parts + 1
  | .iface _ d => uptoBulk d + 1
  | .map entries => uptoBulkEntries entries + 1
  | .held _ => 1
def uptoBulkAll {H : Type} : List (DataW H) → Nat
  | [] => 0
  | d :: r => uptoBulk d + uptoBulkAll r
def uptoBulkEntries {H : Type} : List (Lit × DataW H) → Nat
  | [] => 0
  | x :: r => uptoBulkEntry x + uptoBulkEntries r
def uptoBulkEntry {H : Type} : Lit × DataW H → Nat
  | (.string bytes, d) => bytes.length + uptoBulk d + 1
  | (_, d) => uptoBulk d + 1
 end
def uptoSmall : (H : Type) → List (DataW H) → Bool := fun _ ds => decide (uptoBulkAll ds ≤ 1048576)
def OpenSpec.upto (s : _root_.Go.ChangeSpec) : _root_.Go.OpenSpec := { _root_.Go.OpenSpec.ofChange s with cond := some uptoSmall }

/-- 'laws.FnExactCrossRange', WHERE WHAT IT READS IS OF BULK AT MOST 1048576: true; the input reads as it did. -/
def fnExactCrossRangeUptoRow : OpenClaim := { program := "ytlilfjbhilkngaa", sum := "cf00638bdd17d4064f9c4e9b35ecb2c228f4c43a8a10d63009883dc58b7214a7", func := "loop.example/g00915/laws.FnExactCrossRange", spec := "fnExactCrossRange", apart := false, narrowed := true }
def FnExactCrossRangeUptoSaid : Prop := fnExactCrossRangeUptoRow.holds Try.pinned (OpenSpec.upto fnExactCrossRangeSpec)

/-- 'laws.FnExactTurnRange', WHERE WHAT IT READS IS OF BULK AT MOST 1048576: true; the input reads as it did. -/
def fnExactTurnRangeUptoRow : OpenClaim := { program := "ytlilfjbhilkngaa", sum := "cf00638bdd17d4064f9c4e9b35ecb2c228f4c43a8a10d63009883dc58b7214a7", func := "loop.example/g00915/laws.FnExactTurnRange", spec := "fnExactTurnRange", apart := false, narrowed := true }
def FnExactTurnRangeUptoSaid : Prop := fnExactTurnRangeUptoRow.holds Try.pinned (OpenSpec.upto fnExactTurnRangeSpec)

/-- 'laws.FnExactPassLayer', WHERE WHAT IT READS IS OF BULK AT MOST 1048576: true; the input reads as it did. -/
def fnExactPassLayerUptoRow : OpenClaim := { program := "ytlilfjbhilkngaa", sum := "cf00638bdd17d4064f9c4e9b35ecb2c228f4c43a8a10d63009883dc58b7214a7", func := "loop.example/g00915/laws.FnExactPassLayer", spec := "fnExactPassLayer", apart := false, narrowed := true }
def FnExactPassLayerUptoSaid : Prop := fnExactPassLayerUptoRow.holds Try.pinned (OpenSpec.upto fnExactPassLayerSpec)

/-- 'laws.FnExactStepRay', WHERE WHAT IT READS IS OF BULK AT MOST 1048576: true; the input reads as it did. -/
def fnExactStepRayUptoRow : OpenClaim := { program := "ytlilfjbhilkngaa", sum := "cf00638bdd17d4064f9c4e9b35ecb2c228f4c43a8a10d63009883dc58b7214a7", func := "loop.example/g00915/laws.FnExactStepRay", spec := "fnExactStepRay", apart := false, narrowed := true }
def FnExactStepRayUptoSaid : Prop := fnExactStepRayUptoRow.holds Try.pinned (OpenSpec.upto fnExactStepRaySpec)

/-- 'laws.FnExactTraceRay', WHERE WHAT IT READS IS OF BULK AT MOST 1048576: true; the input reads as it did. -/
def fnExactTraceRayUptoRow : OpenClaim := { program := "ytlilfjbhilkngaa", sum := "cf00638bdd17d4064f9c4e9b35ecb2c228f4c43a8a10d63009883dc58b7214a7", func := "loop.example/g00915/laws.FnExactTraceRay", spec := "fnExactTraceRay", apart := false, narrowed := true }
def FnExactTraceRayUptoSaid : Prop := fnExactTraceRayUptoRow.holds Try.pinned (OpenSpec.upto fnExactTraceRaySpec)

/-- 'laws.FnExactCellRange', WHERE WHAT IT READS IS OF BULK AT MOST 1048576: true; the input reads as it did. -/
def fnExactCellRangeUptoRow : OpenClaim := { program := "ytlilfjbhilkngaa", sum := "cf00638bdd17d4064f9c4e9b35ecb2c228f4c43a8a10d63009883dc58b7214a7", func := "loop.example/g00915/laws.FnExactCellRange", spec := "fnExactCellRange", apart := false, narrowed := true }
def FnExactCellRangeUptoSaid : Prop := fnExactCellRangeUptoRow.holds Try.pinned (OpenSpec.upto fnExactCellRangeSpec)

/-- 'laws.FnExactRangesOf', WHERE WHAT IT READS IS OF BULK AT MOST 1048576: true; the input reads as it did. -/
def fnExactRangesOfUptoRow : OpenClaim := { program := "ytlilfjbhilkngaa", sum := "cf00638bdd17d4064f9c4e9b35ecb2c228f4c43a8a10d63009883dc58b7214a7", func := "loop.example/g00915/laws.FnExactRangesOf", spec := "fnExactRangesOf", apart := false, narrowed := true }
def FnExactRangesOfUptoSaid : Prop := fnExactRangesOfUptoRow.holds Try.pinned (OpenSpec.upto fnExactRangesOfSpec)

/-- 'laws.FnExactDeepestOf', WHERE WHAT IT READS IS OF BULK AT MOST 1048576: true; the input reads as it did. -/
def fnExactDeepestOfUptoRow : OpenClaim := { program := "ytlilfjbhilkngaa", sum := "cf00638bdd17d4064f9c4e9b35ecb2c228f4c43a8a10d63009883dc58b7214a7", func := "loop.example/g00915/laws.FnExactDeepestOf", spec := "fnExactDeepestOf", apart := false, narrowed := true }
def FnExactDeepestOfUptoSaid : Prop := fnExactDeepestOfUptoRow.holds Try.pinned (OpenSpec.upto fnExactDeepestOfSpec)

/-- 'laws.FnExactCellVerdict', WHERE WHAT IT READS IS OF BULK AT MOST 1048576: true; the input reads as it did. -/
def fnExactCellVerdictUptoRow : OpenClaim := { program := "ytlilfjbhilkngaa", sum := "cf00638bdd17d4064f9c4e9b35ecb2c228f4c43a8a10d63009883dc58b7214a7", func := "loop.example/g00915/laws.FnExactCellVerdict", spec := "fnExactCellVerdict", apart := false, narrowed := true }
def FnExactCellVerdictUptoSaid : Prop := fnExactCellVerdictUptoRow.holds Try.pinned (OpenSpec.upto fnExactCellVerdictSpec)

/-- 'laws.FnExactCountCaustics', WHERE WHAT IT READS IS OF BULK AT MOST 1048576: true; the input reads as it did. -/
def fnExactCountCausticsUptoRow : OpenClaim := { program := "ytlilfjbhilkngaa", sum := "cf00638bdd17d4064f9c4e9b35ecb2c228f4c43a8a10d63009883dc58b7214a7", func := "loop.example/g00915/laws.FnExactCountCaustics", spec := "fnExactCountCaustics", apart := false, narrowed := true }
def FnExactCountCausticsUptoSaid : Prop := fnExactCountCausticsUptoRow.holds Try.pinned (OpenSpec.upto fnExactCountCausticsSpec)

/-- 'laws.FnExactFanVerdicts', WHERE WHAT IT READS IS OF BULK AT MOST 1048576: true; the input reads as it did. -/
def fnExactFanVerdictsUptoRow : OpenClaim := { program := "ytlilfjbhilkngaa", sum := "cf00638bdd17d4064f9c4e9b35ecb2c228f4c43a8a10d63009883dc58b7214a7", func := "loop.example/g00915/laws.FnExactFanVerdicts", spec := "fnExactFanVerdicts", apart := false, narrowed := true }
def FnExactFanVerdictsUptoSaid : Prop := fnExactFanVerdictsUptoRow.holds Try.pinned (OpenSpec.upto fnExactFanVerdictsSpec)

/-- 'laws.FnExactOpenCells', WHERE WHAT IT READS IS OF BULK AT MOST 1048576: true; the input reads as it did. -/
def fnExactOpenCellsUptoRow : OpenClaim := { program := "ytlilfjbhilkngaa", sum := "cf00638bdd17d4064f9c4e9b35ecb2c228f4c43a8a10d63009883dc58b7214a7", func := "loop.example/g00915/laws.FnExactOpenCells", spec := "fnExactOpenCells", apart := false, narrowed := true }
def FnExactOpenCellsUptoSaid : Prop := fnExactOpenCellsUptoRow.holds Try.pinned (OpenSpec.upto fnExactOpenCellsSpec)

end Rows
end Go.Proofs.Ytlilfjbhilkngaa
