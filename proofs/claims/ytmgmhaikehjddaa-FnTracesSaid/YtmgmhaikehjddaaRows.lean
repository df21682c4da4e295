/-
  No cell of these rows narrows 'for every input' (looked for: loops, veiled, ifaces, maps, wideKeys, modest, calm, conditions, laid).
  DERIVED. THE GIVEN ROWS OF THIS SEAT. 11 by the template 'for every input the law returns true; each argument reads behind the call as it read before'; 0 by the template 'total and deterministic' (their statements: YtmgmhaikehjddaaTotals.lean).
  GIVEN WITH THE SEED: the statements are not yours to turn. If you find one false, say at which input.
  Laid BY PROGRAM, IN A SANDBOX (cutbox-rows.mjs): the forced cells as the released guide's own fill.sh prints them over the translation 539f05fc5cdb5ec9… (all of the seat's roots in one cut). By AI agents, Wed Nov 11 2026. No macro, syntax, notation, axiom, sorry.
-/
import Derived.Test.YtmgmhaikehjddaaChecked
import GoSem.Claim
import GoSem.ClaimJoined
import GoSem.ClaimMapViews
import Derived.JoinedTies
import Derived.KernelRfl
namespace Go.Proofs.Ytmgmhaikehjddaa
/- THE CELL 'sum', in the pinned program and in every row, IS THE sha256 OF THE DUMP (.gsa) THAT YtmgmhaikehjddaaProg.lean LOADS. Nothing in Lean hashes anything: it is a label: what it is worth is what the hold of that sum in a sandbox is worth. -/
noncomputable def Try.pinned : Pinned := { name := "ytmgmhaikehjddaa", sum := "539f05fc5cdb5ec9c640949a19986b8e084a759f2b706e05cd4829aecdf4ed90", checked := Try.checked }
namespace Rows
def none {H : Type} : Left H := { results := [], args := [] }

/-- 'laws.FnSpeeds': WHATEVER THE INPUT: true; the input reads as it did. -/
def fnSpeedsSpec : ChangeSpec := { name := "fnSpeeds", fn := fun _ => fun
  | [d] => { results := [.lit (.bool true)], args := [d] }
  | _ => none }
def fnSpeedsRow : OpenClaim := { program := "ytmgmhaikehjddaa", sum := "539f05fc5cdb5ec9c640949a19986b8e084a759f2b706e05cd4829aecdf4ed90", func := "loop.example/g00915/laws.FnSpeeds", spec := "fnSpeeds", unfollowed := true, recurses := true, apart := false }
def FnSpeedsSaid : Prop := fnSpeedsRow.holds Try.pinned (OpenSpec.ofChange fnSpeedsSpec)

/-- ITS FALSE NEIGHBOUR: 'it returns false'. Refute it at one input. -/
def fnSpeedsWrong : ChangeSpec := { name := "fnSpeeds", fn := fun _ => fun
  | [d] => { results := [.lit (.bool false)], args := [d] }
  | _ => none }
def FnSpeedsWrongFalsely : Prop := fnSpeedsRow.holds Try.pinned (OpenSpec.ofChange fnSpeedsWrong)

/-- 'laws.FnKnots': WHATEVER THE INPUT: true; the input reads as it did. -/
def fnKnotsSpec : ChangeSpec := { name := "fnKnots", fn := fun _ => fun
  | [d] => { results := [.lit (.bool true)], args := [d] }
  | _ => none }
def fnKnotsRow : OpenClaim := { program := "ytmgmhaikehjddaa", sum := "539f05fc5cdb5ec9c640949a19986b8e084a759f2b706e05cd4829aecdf4ed90", func := "loop.example/g00915/laws.FnKnots", spec := "fnKnots", unfollowed := true, recurses := true, apart := false }
def FnKnotsSaid : Prop := fnKnotsRow.holds Try.pinned (OpenSpec.ofChange fnKnotsSpec)

/-- ITS FALSE NEIGHBOUR: 'it returns false'. Refute it at one input. -/
def fnKnotsWrong : ChangeSpec := { name := "fnKnots", fn := fun _ => fun
  | [d] => { results := [.lit (.bool false)], args := [d] }
  | _ => none }
def FnKnotsWrongFalsely : Prop := fnKnotsRow.holds Try.pinned (OpenSpec.ofChange fnKnotsWrong)

/-- 'laws.FnCrossings': WHATEVER THE INPUT: true; the input reads as it did. -/
def fnCrossingsSpec : ChangeSpec := { name := "fnCrossings", fn := fun _ => fun
  | [d] => { results := [.lit (.bool true)], args := [d] }
  | _ => none }
def fnCrossingsRow : OpenClaim := { program := "ytmgmhaikehjddaa", sum := "539f05fc5cdb5ec9c640949a19986b8e084a759f2b706e05cd4829aecdf4ed90", func := "loop.example/g00915/laws.FnCrossings", spec := "fnCrossings", apart := false }
def FnCrossingsSaid : Prop := fnCrossingsRow.holds Try.pinned (OpenSpec.ofChange fnCrossingsSpec)

/-- ITS FALSE NEIGHBOUR: 'it returns false'. Refute it at one input. -/
def fnCrossingsWrong : ChangeSpec := { name := "fnCrossings", fn := fun _ => fun
  | [d] => { results := [.lit (.bool false)], args := [d] }
  | _ => none }
def FnCrossingsWrongFalsely : Prop := fnCrossingsRow.holds Try.pinned (OpenSpec.ofChange fnCrossingsWrong)

/-- 'laws.FnTurnings': WHATEVER THE INPUT: true; the input reads as it did. -/
def fnTurningsSpec : ChangeSpec := { name := "fnTurnings", fn := fun _ => fun
  | [d] => { results := [.lit (.bool true)], args := [d] }
  | _ => none }
def fnTurningsRow : OpenClaim := { program := "ytmgmhaikehjddaa", sum := "539f05fc5cdb5ec9c640949a19986b8e084a759f2b706e05cd4829aecdf4ed90", func := "loop.example/g00915/laws.FnTurnings", spec := "fnTurnings", apart := false }
def FnTurningsSaid : Prop := fnTurningsRow.holds Try.pinned (OpenSpec.ofChange fnTurningsSpec)

/-- ITS FALSE NEIGHBOUR: 'it returns false'. Refute it at one input. -/
def fnTurningsWrong : ChangeSpec := { name := "fnTurnings", fn := fun _ => fun
  | [d] => { results := [.lit (.bool false)], args := [d] }
  | _ => none }
def FnTurningsWrongFalsely : Prop := fnTurningsRow.holds Try.pinned (OpenSpec.ofChange fnTurningsWrong)

/-- 'laws.FnRaySteps': WHATEVER THE INPUT: true; the input reads as it did. -/
def fnRayStepsSpec : ChangeSpec := { name := "fnRaySteps", fn := fun _ => fun
  | [d] => { results := [.lit (.bool true)], args := [d] }
  | _ => none }
def fnRayStepsRow : OpenClaim := { program := "ytmgmhaikehjddaa", sum := "539f05fc5cdb5ec9c640949a19986b8e084a759f2b706e05cd4829aecdf4ed90", func := "loop.example/g00915/laws.FnRaySteps", spec := "fnRaySteps", apart := false }
def FnRayStepsSaid : Prop := fnRayStepsRow.holds Try.pinned (OpenSpec.ofChange fnRayStepsSpec)

/-- ITS FALSE NEIGHBOUR: 'it returns false'. Refute it at one input. -/
def fnRayStepsWrong : ChangeSpec := { name := "fnRaySteps", fn := fun _ => fun
  | [d] => { results := [.lit (.bool false)], args := [d] }
  | _ => none }
def FnRayStepsWrongFalsely : Prop := fnRayStepsRow.holds Try.pinned (OpenSpec.ofChange fnRayStepsWrong)

/-- 'laws.FnExactCellRange': WHATEVER THE INPUT: true; the input reads as it did. -/
def fnExactCellRangeSpec : ChangeSpec := { name := "fnExactCellRange", fn := fun _ => fun
  | [d1, d2, d3, d4, d5] => { results := [.lit (.bool true)], args := [d1, d2, d3, d4, d5] }
  | _ => none }
def fnExactCellRangeRow : OpenClaim := { program := "ytmgmhaikehjddaa", sum := "539f05fc5cdb5ec9c640949a19986b8e084a759f2b706e05cd4829aecdf4ed90", func := "loop.example/g00915/laws.FnExactCellRange", spec := "fnExactCellRange", apart := false }
def FnExactCellRangeSaid : Prop := fnExactCellRangeRow.holds Try.pinned (OpenSpec.ofChange fnExactCellRangeSpec)

/-- ITS FALSE NEIGHBOUR: 'it returns false'. Refute it at one input. -/
def fnExactCellRangeWrong : ChangeSpec := { name := "fnExactCellRange", fn := fun _ => fun
  | [d1, d2, d3, d4, d5] => { results := [.lit (.bool false)], args := [d1, d2, d3, d4, d5] }
  | _ => none }
def FnExactCellRangeWrongFalsely : Prop := fnExactCellRangeRow.holds Try.pinned (OpenSpec.ofChange fnExactCellRangeWrong)

/-- 'laws.FnExactDeepestOf': WHATEVER THE INPUT: true; the input reads as it did. -/
def fnExactDeepestOfSpec : ChangeSpec := { name := "fnExactDeepestOf", fn := fun _ => fun
  | [d1, d2, d3, d4] => { results := [.lit (.bool true)], args := [d1, d2, d3, d4] }
  | _ => none }
def fnExactDeepestOfRow : OpenClaim := { program := "ytmgmhaikehjddaa", sum := "539f05fc5cdb5ec9c640949a19986b8e084a759f2b706e05cd4829aecdf4ed90", func := "loop.example/g00915/laws.FnExactDeepestOf", spec := "fnExactDeepestOf", apart := false }
def FnExactDeepestOfSaid : Prop := fnExactDeepestOfRow.holds Try.pinned (OpenSpec.ofChange fnExactDeepestOfSpec)

/-- ITS FALSE NEIGHBOUR: 'it returns false'. Refute it at one input. -/
def fnExactDeepestOfWrong : ChangeSpec := { name := "fnExactDeepestOf", fn := fun _ => fun
  | [d1, d2, d3, d4] => { results := [.lit (.bool false)], args := [d1, d2, d3, d4] }
  | _ => none }
def FnExactDeepestOfWrongFalsely : Prop := fnExactDeepestOfRow.holds Try.pinned (OpenSpec.ofChange fnExactDeepestOfWrong)

/-- 'laws.FnDeepest': WHATEVER THE INPUT: true; the input reads as it did. -/
def fnDeepestSpec : ChangeSpec := { name := "fnDeepest", fn := fun _ => fun
  | [d] => { results := [.lit (.bool true)], args := [d] }
  | _ => none }
def fnDeepestRow : OpenClaim := { program := "ytmgmhaikehjddaa", sum := "539f05fc5cdb5ec9c640949a19986b8e084a759f2b706e05cd4829aecdf4ed90", func := "loop.example/g00915/laws.FnDeepest", spec := "fnDeepest", apart := false }
def FnDeepestSaid : Prop := fnDeepestRow.holds Try.pinned (OpenSpec.ofChange fnDeepestSpec)

/-- ITS FALSE NEIGHBOUR: 'it returns false'. Refute it at one input. -/
def fnDeepestWrong : ChangeSpec := { name := "fnDeepest", fn := fun _ => fun
  | [d] => { results := [.lit (.bool false)], args := [d] }
  | _ => none }
def FnDeepestWrongFalsely : Prop := fnDeepestRow.holds Try.pinned (OpenSpec.ofChange fnDeepestWrong)

/-- 'laws.FnTraces': WHATEVER THE INPUT: true; the input reads as it did. -/
def fnTracesSpec : ChangeSpec := { name := "fnTraces", fn := fun _ => fun
  | [d] => { results := [.lit (.bool true)], args := [d] }
  | _ => none }
def fnTracesRow : OpenClaim := { program := "ytmgmhaikehjddaa", sum := "539f05fc5cdb5ec9c640949a19986b8e084a759f2b706e05cd4829aecdf4ed90", func := "loop.example/g00915/laws.FnTraces", spec := "fnTraces", apart := false }
def FnTracesSaid : Prop := fnTracesRow.holds Try.pinned (OpenSpec.ofChange fnTracesSpec)

/-- ITS FALSE NEIGHBOUR: 'it returns false'. Refute it at one input. -/
def fnTracesWrong : ChangeSpec := { name := "fnTraces", fn := fun _ => fun
  | [d] => { results := [.lit (.bool false)], args := [d] }
  | _ => none }
def FnTracesWrongFalsely : Prop := fnTracesRow.holds Try.pinned (OpenSpec.ofChange fnTracesWrong)

/-- 'laws.FnCells': WHATEVER THE INPUT: true; the input reads as it did. -/
def fnCellsSpec : ChangeSpec := { name := "fnCells", fn := fun _ => fun
  | [d] => { results := [.lit (.bool true)], args := [d] }
  | _ => none }
def fnCellsRow : OpenClaim := { program := "ytmgmhaikehjddaa", sum := "539f05fc5cdb5ec9c640949a19986b8e084a759f2b706e05cd4829aecdf4ed90", func := "loop.example/g00915/laws.FnCells", spec := "fnCells", apart := false }
def FnCellsSaid : Prop := fnCellsRow.holds Try.pinned (OpenSpec.ofChange fnCellsSpec)

/-- ITS FALSE NEIGHBOUR: 'it returns false'. Refute it at one input. -/
def fnCellsWrong : ChangeSpec := { name := "fnCells", fn := fun _ => fun
  | [d] => { results := [.lit (.bool false)], args := [d] }
  | _ => none }
def FnCellsWrongFalsely : Prop := fnCellsRow.holds Try.pinned (OpenSpec.ofChange fnCellsWrong)

/-- 'laws.FnOpenCells': WHATEVER THE INPUT: true; the input reads as it did. -/
def fnOpenCellsSpec : ChangeSpec := { name := "fnOpenCells", fn := fun _ => fun
  | [d] => { results := [.lit (.bool true)], args := [d] }
  | _ => none }
def fnOpenCellsRow : OpenClaim := { program := "ytmgmhaikehjddaa", sum := "539f05fc5cdb5ec9c640949a19986b8e084a759f2b706e05cd4829aecdf4ed90", func := "loop.example/g00915/laws.FnOpenCells", spec := "fnOpenCells", apart := false }
def FnOpenCellsSaid : Prop := fnOpenCellsRow.holds Try.pinned (OpenSpec.ofChange fnOpenCellsSpec)

/-- ITS FALSE NEIGHBOUR: 'it returns false'. Refute it at one input. -/
def fnOpenCellsWrong : ChangeSpec := { name := "fnOpenCells", fn := fun _ => fun
  | [d] => { results := [.lit (.bool false)], args := [d] }
  | _ => none }
def FnOpenCellsWrongFalsely : Prop := fnOpenCellsRow.holds Try.pinned (OpenSpec.ofChange fnOpenCellsWrong)

/- THE SECOND FORM. 'bulk': how many values and letters a reading holds, each counted each time it is reached (what is shared counts as often as it is met; a slice's spare places count too). A statement '..UptoSaid' is the law's where the arguments, and the package variables that the reading takes, are together of bulk at most 1048576: NARROWER than '..Said'. Prove '..Said' where nothing that the law and all that it calls make is longer than what came in: it says more and counts as full. Else prove '..UptoSaid'. A law counts once. -/
mutual
def uptoBulk {H : Type} : DataW H → Nat
  | .lit (.string bytes) => bytes.length + 1
  | .lit _ => 1
  | .nil => 1
  | .ptr d => uptoBulk d + 1
  | .slice elems spare => uptoBulkAll elems + uptoBulkAll spare + 1
  | .agg parts => uptoBulkAll parts + 1
  | .iface _ d => uptoBulk d + 1
  | .map entries => uptoBulkEntries entries + 1
  | .held _ => 1
def uptoBulkAll {H : Type} : List (DataW H) → Nat
  | [] => 0
  | d :: r => uptoBulk d + uptoBulkAll r
def uptoBulkEntries {H : Type} : List (Lit × DataW H) → Nat
  | [] => 0
  | x :: r => uptoBulkEntry x + uptoBulkEntries r
def uptoBulkEntry {H : Type} : Lit × DataW H → Nat
  | (.string bytes, d) => bytes.length + uptoBulk d + 1
  | (_, d) => uptoBulk d + 1
 end
def uptoSmall : (H : Type) → List (DataW H) → Bool := fun _ ds => decide (uptoBulkAll ds ≤ 1048576)
def OpenSpec.upto (s : _root_.Go.ChangeSpec) : _root_.Go.OpenSpec := { _root_.Go.OpenSpec.ofChange s with cond := some uptoSmall }

/-- 'laws.FnSpeeds', WHERE WHAT IT READS IS OF BULK AT MOST 1048576: true; the input reads as it did. -/
def fnSpeedsUptoRow : OpenClaim := { program := "ytmgmhaikehjddaa", sum := "539f05fc5cdb5ec9c640949a19986b8e084a759f2b706e05cd4829aecdf4ed90", func := "loop.example/g00915/laws.FnSpeeds", spec := "fnSpeeds", unfollowed := true, recurses := true, apart := false, narrowed := true }
def FnSpeedsUptoSaid : Prop := fnSpeedsUptoRow.holds Try.pinned (OpenSpec.upto fnSpeedsSpec)

/-- 'laws.FnKnots', WHERE WHAT IT READS IS OF BULK AT MOST 1048576: true; the input reads as it did. -/
def fnKnotsUptoRow : OpenClaim := { program := "ytmgmhaikehjddaa", sum := "539f05fc5cdb5ec9c640949a19986b8e084a759f2b706e05cd4829aecdf4ed90", func := "loop.example/g00915/laws.FnKnots", spec := "fnKnots", unfollowed := true, recurses := true, apart := false, narrowed := true }
def FnKnotsUptoSaid : Prop := fnKnotsUptoRow.holds Try.pinned (OpenSpec.upto fnKnotsSpec)

/-- 'laws.FnCrossings', WHERE WHAT IT READS IS OF BULK AT MOST 1048576: true; the input reads as it did. -/
def fnCrossingsUptoRow : OpenClaim := { program := "ytmgmhaikehjddaa", sum := "539f05fc5cdb5ec9c640949a19986b8e084a759f2b706e05cd4829aecdf4ed90", func := "loop.example/g00915/laws.FnCrossings", spec := "fnCrossings", apart := false, narrowed := true }
def FnCrossingsUptoSaid : Prop := fnCrossingsUptoRow.holds Try.pinned (OpenSpec.upto fnCrossingsSpec)

/-- 'laws.FnTurnings', WHERE WHAT IT READS IS OF BULK AT MOST 1048576: true; the input reads as it did. -/
def fnTurningsUptoRow : OpenClaim := { program := "ytmgmhaikehjddaa", sum := "539f05fc5cdb5ec9c640949a19986b8e084a759f2b706e05cd4829aecdf4ed90", func := "loop.example/g00915/laws.FnTurnings", spec := "fnTurnings", apart := false, narrowed := true }
def FnTurningsUptoSaid : Prop := fnTurningsUptoRow.holds Try.pinned (OpenSpec.upto fnTurningsSpec)

/-- 'laws.FnRaySteps', WHERE WHAT IT READS IS OF BULK AT MOST 1048576: true; the input reads as it did. -/
def fnRayStepsUptoRow : OpenClaim := { program := "ytmgmhaikehjddaa", sum := "539f05fc5cdb5ec9c640949a19986b8e084a759f2b706e05cd4829aecdf4ed90", func := "loop.example/g00915/laws.FnRaySteps", spec := "fnRaySteps", apart := false, narrowed := true }
def FnRayStepsUptoSaid : Prop := fnRayStepsUptoRow.holds Try.pinned (OpenSpec.upto fnRayStepsSpec)

/-- 'laws.FnExactCellRange', WHERE WHAT IT READS IS OF BULK AT MOST 1048576: true; the input reads as it did. -/
def fnExactCellRangeUptoRow : OpenClaim := { program := "ytmgmhaikehjddaa", sum := "539f05fc5cdb5ec9c640949a19986b8e084a759f2b706e05cd4829aecdf4ed90", func := "loop.example/g00915/laws.FnExactCellRange", spec := "fnExactCellRange", apart := false, narrowed := true }
def FnExactCellRangeUptoSaid : Prop := fnExactCellRangeUptoRow.holds Try.pinned (OpenSpec.upto fnExactCellRangeSpec)

/-- 'laws.FnExactDeepestOf', WHERE WHAT IT READS IS OF BULK AT MOST 1048576: true; the input reads as it did. -/
def fnExactDeepestOfUptoRow : OpenClaim := { program := "ytmgmhaikehjddaa", sum := "539f05fc5cdb5ec9c640949a19986b8e084a759f2b706e05cd4829aecdf4ed90", func := "loop.example/g00915/laws.FnExactDeepestOf", spec := "fnExactDeepestOf", apart := false, narrowed := true }
def FnExactDeepestOfUptoSaid : Prop := fnExactDeepestOfUptoRow.holds Try.pinned (OpenSpec.upto fnExactDeepestOfSpec)

/-- 'laws.FnDeepest', WHERE WHAT IT READS IS OF BULK AT MOST 1048576: true; the input reads as it did. -/
def fnDeepestUptoRow : OpenClaim := { program := "ytmgmhaikehjddaa", sum := "539f05fc5cdb5ec9c640949a19986b8e084a759f2b706e05cd4829aecdf4ed90", func := "loop.example/g00915/laws.FnDeepest", spec := "fnDeepest", apart := false, narrowed := true }
def FnDeepestUptoSaid : Prop := fnDeepestUptoRow.holds Try.pinned (OpenSpec.upto fnDeepestSpec)

/-- 'laws.FnTraces', WHERE WHAT IT READS IS OF BULK AT MOST 1048576: true; the input reads as it did. -/
def fnTracesUptoRow : OpenClaim := { program := "ytmgmhaikehjddaa", sum := "539f05fc5cdb5ec9c640949a19986b8e084a759f2b706e05cd4829aecdf4ed90", func := "loop.example/g00915/laws.FnTraces", spec := "fnTraces", apart := false, narrowed := true }
def FnTracesUptoSaid : Prop := fnTracesUptoRow.holds Try.pinned (OpenSpec.upto fnTracesSpec)

/-- 'laws.FnCells', WHERE WHAT IT READS IS OF BULK AT MOST 1048576: true; the input reads as it did. -/
def fnCellsUptoRow : OpenClaim := { program := "ytmgmhaikehjddaa", sum := "539f05fc5cdb5ec9c640949a19986b8e084a759f2b706e05cd4829aecdf4ed90", func := "loop.example/g00915/laws.FnCells", spec := "fnCells", apart := false, narrowed := true }
def FnCellsUptoSaid : Prop := fnCellsUptoRow.holds Try.pinned (OpenSpec.upto fnCellsSpec)

/-- 'laws.FnOpenCells', WHERE WHAT IT READS IS OF BULK AT MOST 1048576: true; the input reads as it did. -/
def fnOpenCellsUptoRow : OpenClaim := { program := "ytmgmhaikehjddaa", sum := "539f05fc5cdb5ec9c640949a19986b8e084a759f2b706e05cd4829aecdf4ed90", func := "loop.example/g00915/laws.FnOpenCells", spec := "fnOpenCells", apart := false, narrowed := true }
def FnOpenCellsUptoSaid : Prop := fnOpenCellsUptoRow.holds Try.pinned (OpenSpec.upto fnOpenCellsSpec)

end Rows
end Go.Proofs.Ytmgmhaikehjddaa
