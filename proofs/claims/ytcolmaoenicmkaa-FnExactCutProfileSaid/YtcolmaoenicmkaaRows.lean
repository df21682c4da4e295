/-
  No cell of these rows narrows 'for every input' (looked for: loops, veiled, ifaces, maps, wideKeys, modest, calm, conditions, laid).
  DERIVED. THE GIVEN ROWS OF THIS SEAT. 12 by the template 'for every input the law returns true; each argument reads behind the call as it read before'; 0 by the template 'total and deterministic' (their statements: YtcolmaoenicmkaaTotals.lean).
  GIVEN WITH THE SEED: the statements are not yours to turn. If you find one false, say at which input.
  Laid BY PROGRAM, IN A SANDBOX (cutbox-rows.mjs): the forced cells as the released guide's own fill.sh prints them over the translation ac735b9b09727e38… (all of the seat's roots in one cut). By AI agents, Wed Nov 11 2026. No macro, syntax, notation, axiom, sorry.
-/
import Derived.Test.YtcolmaoenicmkaaChecked
import GoSem.Claim
import GoSem.ClaimJoined
import GoSem.ClaimMapViews
import Derived.JoinedTies
import Derived.KernelRfl
namespace Go.Proofs.Ytcolmaoenicmkaa
/- THE CELL 'sum', in the pinned program and in every row, IS THE sha256 OF THE DUMP (.gsa) THAT YtcolmaoenicmkaaProg.lean LOADS. Nothing in Lean hashes anything: it is a label: what it is worth is what the hold of that sum in a sandbox is worth. -/
noncomputable def Try.pinned : Pinned := { name := "ytcolmaoenicmkaa", sum := "ac735b9b09727e383bf5308bab46d278c86cdd61225ecd745c8dfc07ba47ace3", checked := Try.checked }
namespace Rows
def none {H : Type} : Left H := { results := [], args := [] }

/-- 'laws.FnExactCanCross': WHATEVER THE INPUT: true; the input reads as it did. -/
def fnExactCanCrossSpec : ChangeSpec := { name := "fnExactCanCross", fn := fun _ => fun
  | [d1, d2, d3, d4] => { results := [.lit (.bool true)], args := [d1, d2, d3, d4] }
  | _ => none }
def fnExactCanCrossRow : OpenClaim := { program := "ytcolmaoenicmkaa", sum := "ac735b9b09727e383bf5308bab46d278c86cdd61225ecd745c8dfc07ba47ace3", func := "loop.example/g00915/laws.FnExactCanCross", spec := "fnExactCanCross", apart := false }
def FnExactCanCrossSaid : Prop := fnExactCanCrossRow.holds Try.pinned (OpenSpec.ofChange fnExactCanCrossSpec)

/-- ITS FALSE NEIGHBOUR: 'it returns false'. Refute it at one input. -/
def fnExactCanCrossWrong : ChangeSpec := { name := "fnExactCanCross", fn := fun _ => fun
  | [d1, d2, d3, d4] => { results := [.lit (.bool false)], args := [d1, d2, d3, d4] }
  | _ => none }
def FnExactCanCrossWrongFalsely : Prop := fnExactCanCrossRow.holds Try.pinned (OpenSpec.ofChange fnExactCanCrossWrong)

/-- 'laws.FnExactSpeedAt': WHATEVER THE INPUT: true; the input reads as it did. -/
def fnExactSpeedAtSpec : ChangeSpec := { name := "fnExactSpeedAt", fn := fun _ => fun
  | [d1, d2] => { results := [.lit (.bool true)], args := [d1, d2] }
  | _ => none }
def fnExactSpeedAtRow : OpenClaim := { program := "ytcolmaoenicmkaa", sum := "ac735b9b09727e383bf5308bab46d278c86cdd61225ecd745c8dfc07ba47ace3", func := "loop.example/g00915/laws.FnExactSpeedAt", spec := "fnExactSpeedAt", unfollowed := true, recurses := true, apart := false }
def FnExactSpeedAtSaid : Prop := fnExactSpeedAtRow.holds Try.pinned (OpenSpec.ofChange fnExactSpeedAtSpec)

/-- ITS FALSE NEIGHBOUR: 'it returns false'. Refute it at one input. -/
def fnExactSpeedAtWrong : ChangeSpec := { name := "fnExactSpeedAt", fn := fun _ => fun
  | [d1, d2] => { results := [.lit (.bool false)], args := [d1, d2] }
  | _ => none }
def FnExactSpeedAtWrongFalsely : Prop := fnExactSpeedAtRow.holds Try.pinned (OpenSpec.ofChange fnExactSpeedAtWrong)

/-- 'laws.FnExactIsRayState': WHATEVER THE INPUT: true; the input reads as it did. -/
def fnExactIsRayStateSpec : ChangeSpec := { name := "fnExactIsRayState", fn := fun _ => fun
  | [d1, d2, d3, d4] => { results := [.lit (.bool true)], args := [d1, d2, d3, d4] }
  | _ => none }
def fnExactIsRayStateRow : OpenClaim := { program := "ytcolmaoenicmkaa", sum := "ac735b9b09727e383bf5308bab46d278c86cdd61225ecd745c8dfc07ba47ace3", func := "loop.example/g00915/laws.FnExactIsRayState", spec := "fnExactIsRayState", apart := false }
def FnExactIsRayStateSaid : Prop := fnExactIsRayStateRow.holds Try.pinned (OpenSpec.ofChange fnExactIsRayStateSpec)

/-- ITS FALSE NEIGHBOUR: 'it returns false'. Refute it at one input. -/
def fnExactIsRayStateWrong : ChangeSpec := { name := "fnExactIsRayState", fn := fun _ => fun
  | [d1, d2, d3, d4] => { results := [.lit (.bool false)], args := [d1, d2, d3, d4] }
  | _ => none }
def FnExactIsRayStateWrongFalsely : Prop := fnExactIsRayStateRow.holds Try.pinned (OpenSpec.ofChange fnExactIsRayStateWrong)

/-- 'laws.FnExactCutProfile': WHATEVER THE INPUT: true; the input reads as it did. -/
def fnExactCutProfileSpec : ChangeSpec := { name := "fnExactCutProfile", fn := fun _ => fun
  | [d1, d2] => { results := [.lit (.bool true)], args := [d1, d2] }
  | _ => none }
def fnExactCutProfileRow : OpenClaim := { program := "ytcolmaoenicmkaa", sum := "ac735b9b09727e383bf5308bab46d278c86cdd61225ecd745c8dfc07ba47ace3", func := "loop.example/g00915/laws.FnExactCutProfile", spec := "fnExactCutProfile", unfollowed := true, recurses := true, apart := false }
def FnExactCutProfileSaid : Prop := fnExactCutProfileRow.holds Try.pinned (OpenSpec.ofChange fnExactCutProfileSpec)

/-- ITS FALSE NEIGHBOUR: 'it returns false'. Refute it at one input. -/
def fnExactCutProfileWrong : ChangeSpec := { name := "fnExactCutProfile", fn := fun _ => fun
  | [d1, d2] => { results := [.lit (.bool false)], args := [d1, d2] }
  | _ => none }
def FnExactCutProfileWrongFalsely : Prop := fnExactCutProfileRow.holds Try.pinned (OpenSpec.ofChange fnExactCutProfileWrong)

/-- 'laws.FnExactGradientOf': WHATEVER THE INPUT: true; the input reads as it did. -/
def fnExactGradientOfSpec : ChangeSpec := { name := "fnExactGradientOf", fn := fun _ => fun
  | [d1, d2] => { results := [.lit (.bool true)], args := [d1, d2] }
  | _ => none }
def fnExactGradientOfRow : OpenClaim := { program := "ytcolmaoenicmkaa", sum := "ac735b9b09727e383bf5308bab46d278c86cdd61225ecd745c8dfc07ba47ace3", func := "loop.example/g00915/laws.FnExactGradientOf", spec := "fnExactGradientOf", unfollowed := true, recurses := true, apart := false }
def FnExactGradientOfSaid : Prop := fnExactGradientOfRow.holds Try.pinned (OpenSpec.ofChange fnExactGradientOfSpec)

/-- ITS FALSE NEIGHBOUR: 'it returns false'. Refute it at one input. -/
def fnExactGradientOfWrong : ChangeSpec := { name := "fnExactGradientOf", fn := fun _ => fun
  | [d1, d2] => { results := [.lit (.bool false)], args := [d1, d2] }
  | _ => none }
def FnExactGradientOfWrongFalsely : Prop := fnExactGradientOfRow.holds Try.pinned (OpenSpec.ofChange fnExactGradientOfWrong)

/-- 'laws.FnExactFirstState': WHATEVER THE INPUT: true; the input reads as it did. -/
def fnExactFirstStateSpec : ChangeSpec := { name := "fnExactFirstState", fn := fun _ => fun
  | [d1, d2, d3] => { results := [.lit (.bool true)], args := [d1, d2, d3] }
  | _ => none }
def fnExactFirstStateRow : OpenClaim := { program := "ytcolmaoenicmkaa", sum := "ac735b9b09727e383bf5308bab46d278c86cdd61225ecd745c8dfc07ba47ace3", func := "loop.example/g00915/laws.FnExactFirstState", spec := "fnExactFirstState", apart := false }
def FnExactFirstStateSaid : Prop := fnExactFirstStateRow.holds Try.pinned (OpenSpec.ofChange fnExactFirstStateSpec)

/-- ITS FALSE NEIGHBOUR: 'it returns false'. Refute it at one input. -/
def fnExactFirstStateWrong : ChangeSpec := { name := "fnExactFirstState", fn := fun _ => fun
  | [d1, d2, d3] => { results := [.lit (.bool false)], args := [d1, d2, d3] }
  | _ => none }
def FnExactFirstStateWrongFalsely : Prop := fnExactFirstStateRow.holds Try.pinned (OpenSpec.ofChange fnExactFirstStateWrong)

/-- 'laws.FnExactLayersOpen': WHATEVER THE INPUT: true; the input reads as it did. -/
def fnExactLayersOpenSpec : ChangeSpec := { name := "fnExactLayersOpen", fn := fun _ => fun
  | [d1, d2, d3] => { results := [.lit (.bool true)], args := [d1, d2, d3] }
  | _ => none }
def fnExactLayersOpenRow : OpenClaim := { program := "ytcolmaoenicmkaa", sum := "ac735b9b09727e383bf5308bab46d278c86cdd61225ecd745c8dfc07ba47ace3", func := "loop.example/g00915/laws.FnExactLayersOpen", spec := "fnExactLayersOpen", apart := false }
def FnExactLayersOpenSaid : Prop := fnExactLayersOpenRow.holds Try.pinned (OpenSpec.ofChange fnExactLayersOpenSpec)

/-- ITS FALSE NEIGHBOUR: 'it returns false'. Refute it at one input. -/
def fnExactLayersOpenWrong : ChangeSpec := { name := "fnExactLayersOpen", fn := fun _ => fun
  | [d1, d2, d3] => { results := [.lit (.bool false)], args := [d1, d2, d3] }
  | _ => none }
def FnExactLayersOpenWrongFalsely : Prop := fnExactLayersOpenRow.holds Try.pinned (OpenSpec.ofChange fnExactLayersOpenWrong)

/-- 'laws.FnExactTurningSpeed': WHATEVER THE INPUT: true; the input reads as it did. -/
def fnExactTurningSpeedSpec : ChangeSpec := { name := "fnExactTurningSpeed", fn := fun _ => fun
  | [d1, d2, d3] => { results := [.lit (.bool true)], args := [d1, d2, d3] }
  | _ => none }
def fnExactTurningSpeedRow : OpenClaim := { program := "ytcolmaoenicmkaa", sum := "ac735b9b09727e383bf5308bab46d278c86cdd61225ecd745c8dfc07ba47ace3", func := "loop.example/g00915/laws.FnExactTurningSpeed", spec := "fnExactTurningSpeed", apart := false }
def FnExactTurningSpeedSaid : Prop := fnExactTurningSpeedRow.holds Try.pinned (OpenSpec.ofChange fnExactTurningSpeedSpec)

/-- ITS FALSE NEIGHBOUR: 'it returns false'. Refute it at one input. -/
def fnExactTurningSpeedWrong : ChangeSpec := { name := "fnExactTurningSpeed", fn := fun _ => fun
  | [d1, d2, d3] => { results := [.lit (.bool false)], args := [d1, d2, d3] }
  | _ => none }
def FnExactTurningSpeedWrongFalsely : Prop := fnExactTurningSpeedRow.holds Try.pinned (OpenSpec.ofChange fnExactTurningSpeedWrong)

/-- 'laws.FnExactLayerVerdict': WHATEVER THE INPUT: true; the input reads as it did. -/
def fnExactLayerVerdictSpec : ChangeSpec := { name := "fnExactLayerVerdict", fn := fun _ => fun
  | [d1, d2, d3, d4, d5] => { results := [.lit (.bool true)], args := [d1, d2, d3, d4, d5] }
  | _ => none }
def fnExactLayerVerdictRow : OpenClaim := { program := "ytcolmaoenicmkaa", sum := "ac735b9b09727e383bf5308bab46d278c86cdd61225ecd745c8dfc07ba47ace3", func := "loop.example/g00915/laws.FnExactLayerVerdict", spec := "fnExactLayerVerdict", apart := false }
def FnExactLayerVerdictSaid : Prop := fnExactLayerVerdictRow.holds Try.pinned (OpenSpec.ofChange fnExactLayerVerdictSpec)

/-- ITS FALSE NEIGHBOUR: 'it returns false'. Refute it at one input. -/
def fnExactLayerVerdictWrong : ChangeSpec := { name := "fnExactLayerVerdict", fn := fun _ => fun
  | [d1, d2, d3, d4, d5] => { results := [.lit (.bool false)], args := [d1, d2, d3, d4, d5] }
  | _ => none }
def FnExactLayerVerdictWrongFalsely : Prop := fnExactLayerVerdictRow.holds Try.pinned (OpenSpec.ofChange fnExactLayerVerdictWrong)

/-- 'laws.FnExactSineAt': WHATEVER THE INPUT: true; the input reads as it did. -/
def fnExactSineAtSpec : ChangeSpec := { name := "fnExactSineAt", fn := fun _ => fun
  | [d1, d2, d3, d4] => { results := [.lit (.bool true)], args := [d1, d2, d3, d4] }
  | _ => none }
def fnExactSineAtRow : OpenClaim := { program := "ytcolmaoenicmkaa", sum := "ac735b9b09727e383bf5308bab46d278c86cdd61225ecd745c8dfc07ba47ace3", func := "loop.example/g00915/laws.FnExactSineAt", spec := "fnExactSineAt", apart := false }
def FnExactSineAtSaid : Prop := fnExactSineAtRow.holds Try.pinned (OpenSpec.ofChange fnExactSineAtSpec)

/-- ITS FALSE NEIGHBOUR: 'it returns false'. Refute it at one input. -/
def fnExactSineAtWrong : ChangeSpec := { name := "fnExactSineAt", fn := fun _ => fun
  | [d1, d2, d3, d4] => { results := [.lit (.bool false)], args := [d1, d2, d3, d4] }
  | _ => none }
def FnExactSineAtWrongFalsely : Prop := fnExactSineAtRow.holds Try.pinned (OpenSpec.ofChange fnExactSineAtWrong)

/-- 'laws.FnExactArcRadius': WHATEVER THE INPUT: true; the input reads as it did. -/
def fnExactArcRadiusSpec : ChangeSpec := { name := "fnExactArcRadius", fn := fun _ => fun
  | [d1, d2, d3, d4] => { results := [.lit (.bool true)], args := [d1, d2, d3, d4] }
  | _ => none }
def fnExactArcRadiusRow : OpenClaim := { program := "ytcolmaoenicmkaa", sum := "ac735b9b09727e383bf5308bab46d278c86cdd61225ecd745c8dfc07ba47ace3", func := "loop.example/g00915/laws.FnExactArcRadius", spec := "fnExactArcRadius", apart := false }
def FnExactArcRadiusSaid : Prop := fnExactArcRadiusRow.holds Try.pinned (OpenSpec.ofChange fnExactArcRadiusSpec)

/-- ITS FALSE NEIGHBOUR: 'it returns false'. Refute it at one input. -/
def fnExactArcRadiusWrong : ChangeSpec := { name := "fnExactArcRadius", fn := fun _ => fun
  | [d1, d2, d3, d4] => { results := [.lit (.bool false)], args := [d1, d2, d3, d4] }
  | _ => none }
def FnExactArcRadiusWrongFalsely : Prop := fnExactArcRadiusRow.holds Try.pinned (OpenSpec.ofChange fnExactArcRadiusWrong)

/-- 'laws.FnExactTurnDepth': WHATEVER THE INPUT: true; the input reads as it did. -/
def fnExactTurnDepthSpec : ChangeSpec := { name := "fnExactTurnDepth", fn := fun _ => fun
  | [d1, d2, d3, d4, d5] => { results := [.lit (.bool true)], args := [d1, d2, d3, d4, d5] }
  | _ => none }
def fnExactTurnDepthRow : OpenClaim := { program := "ytcolmaoenicmkaa", sum := "ac735b9b09727e383bf5308bab46d278c86cdd61225ecd745c8dfc07ba47ace3", func := "loop.example/g00915/laws.FnExactTurnDepth", spec := "fnExactTurnDepth", apart := false }
def FnExactTurnDepthSaid : Prop := fnExactTurnDepthRow.holds Try.pinned (OpenSpec.ofChange fnExactTurnDepthSpec)

/-- ITS FALSE NEIGHBOUR: 'it returns false'. Refute it at one input. -/
def fnExactTurnDepthWrong : ChangeSpec := { name := "fnExactTurnDepth", fn := fun _ => fun
  | [d1, d2, d3, d4, d5] => { results := [.lit (.bool false)], args := [d1, d2, d3, d4, d5] }
  | _ => none }
def FnExactTurnDepthWrongFalsely : Prop := fnExactTurnDepthRow.holds Try.pinned (OpenSpec.ofChange fnExactTurnDepthWrong)

/- THE SECOND FORM. 'bulk': how many values and letters a reading holds, each counted each time it is reached (what is shared counts as often as it is met; a slice's spare places count too). A statement '..UptoSaid' is the law's where the arguments, and the package variables that the reading takes, are together of bulk at most 1048576: NARROWER than '..Said'. Prove '..Said' where nothing that the law and all that it calls make is longer than what came in: it says more and counts as full. Else prove '..UptoSaid'. A law counts once. -/
mutual
def uptoBulk {H : Type} : DataW H → Nat
  | .lit (.string bytes) => bytes.length + 1
  | .lit _ => 1
  | .nil => 1
  | .ptr d => uptoBulk d + 1
  | .slice elems spare => uptoBulkAll elems + uptoBulkAll spare + 1
  | .agg parts => uptoBulkAll parts + 1
  | .iface _ d => uptoBulk d + 1
  | .map entries => uptoBulkEntries entries + 1
  | .held _ => 1
def uptoBulkAll {H : Type} : List (DataW H) → Nat
  | [] => 0
  | d :: r => uptoBulk d + uptoBulkAll r
def uptoBulkEntries {H : Type} : List (Lit × DataW H) → Nat
  | [] => 0
  | x :: r => uptoBulkEntry x + uptoBulkEntries r
def uptoBulkEntry {H : Type} : Lit × DataW H → Nat
  | (.string bytes, d) => bytes.length + uptoBulk d + 1
  | (_, d) => uptoBulk d + 1
 end
def uptoSmall : (H : Type) → List (DataW H) → Bool := fun _ ds => decide (uptoBulkAll ds ≤ 1048576)
def OpenSpec.upto (s : _root_.Go.ChangeSpec) : _root_.Go.OpenSpec := { _root_.Go.OpenSpec.ofChange s with cond := some uptoSmall }

/-- 'laws.FnExactCanCross', WHERE WHAT IT READS IS OF BULK AT MOST 1048576: true; the input reads as it did. -/
def fnExactCanCrossUptoRow : OpenClaim := { program := "ytcolmaoenicmkaa", sum := "ac735b9b09727e383bf5308bab46d278c86cdd61225ecd745c8dfc07ba47ace3", func := "loop.example/g00915/laws.FnExactCanCross", spec := "fnExactCanCross", apart := false, narrowed := true }
def FnExactCanCrossUptoSaid : Prop := fnExactCanCrossUptoRow.holds Try.pinned (OpenSpec.upto fnExactCanCrossSpec)

/-- 'laws.FnExactSpeedAt', WHERE WHAT IT READS IS OF BULK AT MOST 1048576: true; the input reads as it did. -/
def fnExactSpeedAtUptoRow : OpenClaim := { program := "ytcolmaoenicmkaa", sum := "ac735b9b09727e383bf5308bab46d278c86cdd61225ecd745c8dfc07ba47ace3", func := "loop.example/g00915/laws.FnExactSpeedAt", spec := "fnExactSpeedAt", unfollowed := true, recurses := true, apart := false, narrowed := true }
def FnExactSpeedAtUptoSaid : Prop := fnExactSpeedAtUptoRow.holds Try.pinned (OpenSpec.upto fnExactSpeedAtSpec)

/-- 'laws.FnExactIsRayState', WHERE WHAT IT READS IS OF BULK AT MOST 1048576: true; the input reads as it did. -/
def fnExactIsRayStateUptoRow : OpenClaim := { program := "ytcolmaoenicmkaa", sum := "ac735b9b09727e383bf5308bab46d278c86cdd61225ecd745c8dfc07ba47ace3", func := "loop.example/g00915/laws.FnExactIsRayState", spec := "fnExactIsRayState", apart := false, narrowed := true }
def FnExactIsRayStateUptoSaid : Prop := fnExactIsRayStateUptoRow.holds Try.pinned (OpenSpec.upto fnExactIsRayStateSpec)

/-- 'laws.FnExactCutProfile', WHERE WHAT IT READS IS OF BULK AT MOST 1048576: true; the input reads as it did. -/
def fnExactCutProfileUptoRow : OpenClaim := { program := "ytcolmaoenicmkaa", sum := "ac735b9b09727e383bf5308bab46d278c86cdd61225ecd745c8dfc07ba47ace3", func := "loop.example/g00915/laws.FnExactCutProfile", spec := "fnExactCutProfile", unfollowed := true, recurses := true, apart := false, narrowed := true }
def FnExactCutProfileUptoSaid : Prop := fnExactCutProfileUptoRow.holds Try.pinned (OpenSpec.upto fnExactCutProfileSpec)

/-- 'laws.FnExactGradientOf', WHERE WHAT IT READS IS OF BULK AT MOST 1048576: true; the input reads as it did. -/
def fnExactGradientOfUptoRow : OpenClaim := { program := "ytcolmaoenicmkaa", sum := "ac735b9b09727e383bf5308bab46d278c86cdd61225ecd745c8dfc07ba47ace3", func := "loop.example/g00915/laws.FnExactGradientOf", spec := "fnExactGradientOf", unfollowed := true, recurses := true, apart := false, narrowed := true }
def FnExactGradientOfUptoSaid : Prop := fnExactGradientOfUptoRow.holds Try.pinned (OpenSpec.upto fnExactGradientOfSpec)

/-- 'laws.FnExactFirstState', WHERE WHAT IT READS IS OF BULK AT MOST 1048576: true; the input reads as it did. -/
def fnExactFirstStateUptoRow : OpenClaim := { program := "ytcolmaoenicmkaa", sum := "ac735b9b09727e383bf5308bab46d278c86cdd61225ecd745c8dfc07ba47ace3", func := "loop.example/g00915/laws.FnExactFirstState", spec := "fnExactFirstState", apart := false, narrowed := true }
def FnExactFirstStateUptoSaid : Prop := fnExactFirstStateUptoRow.holds Try.pinned (OpenSpec.upto fnExactFirstStateSpec)

/-- 'laws.FnExactLayersOpen', WHERE WHAT IT READS IS OF BULK AT MOST 1048576: true; the input reads as it did. -/
def fnExactLayersOpenUptoRow : OpenClaim := { program := "ytcolmaoenicmkaa", sum := "ac735b9b09727e383bf5308bab46d278c86cdd61225ecd745c8dfc07ba47ace3", func := "loop.example/g00915/laws.FnExactLayersOpen", spec := "fnExactLayersOpen", apart := false, narrowed := true }
def FnExactLayersOpenUptoSaid : Prop := fnExactLayersOpenUptoRow.holds Try.pinned (OpenSpec.upto fnExactLayersOpenSpec)

/-- 'laws.FnExactTurningSpeed', WHERE WHAT IT READS IS OF BULK AT MOST 1048576: true; the input reads as it did. -/
def fnExactTurningSpeedUptoRow : OpenClaim := { program := "ytcolmaoenicmkaa", sum := "ac735b9b09727e383bf5308bab46d278c86cdd61225ecd745c8dfc07ba47ace3", func := "loop.example/g00915/laws.FnExactTurningSpeed", spec := "fnExactTurningSpeed", apart := false, narrowed := true }
def FnExactTurningSpeedUptoSaid : Prop := fnExactTurningSpeedUptoRow.holds Try.pinned (OpenSpec.upto fnExactTurningSpeedSpec)

/-- 'laws.FnExactLayerVerdict', WHERE WHAT IT READS IS OF BULK AT MOST 1048576: true; the input reads as it did. -/
def fnExactLayerVerdictUptoRow : OpenClaim := { program := "ytcolmaoenicmkaa", sum := "ac735b9b09727e383bf5308bab46d278c86cdd61225ecd745c8dfc07ba47ace3", func := "loop.example/g00915/laws.FnExactLayerVerdict", spec := "fnExactLayerVerdict", apart := false, narrowed := true }
def FnExactLayerVerdictUptoSaid : Prop := fnExactLayerVerdictUptoRow.holds Try.pinned (OpenSpec.upto fnExactLayerVerdictSpec)

/-- 'laws.FnExactSineAt', WHERE WHAT IT READS IS OF BULK AT MOST 1048576: true; the input reads as it did. -/
def fnExactSineAtUptoRow : OpenClaim := { program := "ytcolmaoenicmkaa", sum := "ac735b9b09727e383bf5308bab46d278c86cdd61225ecd745c8dfc07ba47ace3", func := "loop.example/g00915/laws.FnExactSineAt", spec := "fnExactSineAt", apart := false, narrowed := true }
def FnExactSineAtUptoSaid : Prop := fnExactSineAtUptoRow.holds Try.pinned (OpenSpec.upto fnExactSineAtSpec)

/-- 'laws.FnExactArcRadius', WHERE WHAT IT READS IS OF BULK AT MOST 1048576: true; the input reads as it did. -/
def fnExactArcRadiusUptoRow : OpenClaim := { program := "ytcolmaoenicmkaa", sum := "ac735b9b09727e383bf5308bab46d278c86cdd61225ecd745c8dfc07ba47ace3", func := "loop.example/g00915/laws.FnExactArcRadius", spec := "fnExactArcRadius", apart := false, narrowed := true }
def FnExactArcRadiusUptoSaid : Prop := fnExactArcRadiusUptoRow.holds Try.pinned (OpenSpec.upto fnExactArcRadiusSpec)

/-- 'laws.FnExactTurnDepth', WHERE WHAT IT READS IS OF BULK AT MOST 1048576: true; the input reads as it did. -/
def fnExactTurnDepthUptoRow : OpenClaim := { program := "ytcolmaoenicmkaa", sum := "ac735b9b09727e383bf5308bab46d278c86cdd61225ecd745c8dfc07ba47ace3", func := "loop.example/g00915/laws.FnExactTurnDepth", spec := "fnExactTurnDepth", apart := false, narrowed := true }
def FnExactTurnDepthUptoSaid : Prop := fnExactTurnDepthUptoRow.holds Try.pinned (OpenSpec.upto fnExactTurnDepthSpec)

end Rows
end Go.Proofs.Ytcolmaoenicmkaa
