/-
  No cell of these rows narrows 'for every input' (looked for: loops, veiled, ifaces, maps, wideKeys, modest, calm, conditions, laid).
  DERIVED. THE GIVEN ROWS OF THIS SEAT. 8 by the template 'for every input the law returns true; each argument reads behind the call as it read before'; 0 by the template 'total and deterministic' (their statements: YtkmlcjhlckoajaaTotals.lean).
  GIVEN WITH THE SEED: the statements are not yours to turn. If you find one false, say at which input.
  Laid BY PROGRAM, IN A SANDBOX (cutbox-rows.mjs): the forced cells as the released guide's own fill.sh prints them over the translation 34f4a44e06f6031b… (all of the seat's roots in one cut). By AI agents, Wed Nov 11 2026. No macro, syntax, notation, axiom, sorry.
-/
import Derived.Test.YtkmlcjhlckoajaaChecked
import GoSem.Claim
import GoSem.ClaimJoined
import GoSem.ClaimMapViews
import Derived.JoinedTies
import Derived.KernelRfl
namespace Go.Proofs.Ytkmlcjhlckoajaa
/- THE CELL 'sum', in the pinned program and in every row, IS THE sha256 OF THE DUMP (.gsa) THAT YtkmlcjhlckoajaaProg.lean LOADS. Nothing in Lean hashes anything: it is a label: what it is worth is what the hold of that sum in a sandbox is worth. -/
noncomputable def Try.pinned : Pinned := { name := "ytkmlcjhlckoajaa", sum := "34f4a44e06f6031bc80b004a10c1fbd53ef2d1a9395b7e2a79bbf4b974f8020e", checked := Try.checked }
namespace Rows
def none {H : Type} : Left H := { results := [], args := [] }

/-- 'laws.FnSpeeds': WHATEVER THE INPUT: true; the input reads as it did. -/
def fnSpeedsSpec : ChangeSpec := { name := "fnSpeeds", fn := fun _ => fun
  | [d] => { results := [.lit (.bool true)], args := [d] }
  | _ => none }
def fnSpeedsRow : OpenClaim := { program := "ytkmlcjhlckoajaa", sum := "34f4a44e06f6031bc80b004a10c1fbd53ef2d1a9395b7e2a79bbf4b974f8020e", func := "loop.example/g00915/laws.FnSpeeds", spec := "fnSpeeds", unfollowed := true, recurses := true, apart := false }
def FnSpeedsSaid : Prop := fnSpeedsRow.holds Try.pinned (OpenSpec.ofChange fnSpeedsSpec)

/-- ITS FALSE NEIGHBOUR: 'it returns false'. Refute it at one input. -/
def fnSpeedsWrong : ChangeSpec := { name := "fnSpeeds", fn := fun _ => fun
  | [d] => { results := [.lit (.bool false)], args := [d] }
  | _ => none }
def FnSpeedsWrongFalsely : Prop := fnSpeedsRow.holds Try.pinned (OpenSpec.ofChange fnSpeedsWrong)

/-- 'laws.FnKnots': WHATEVER THE INPUT: true; the input reads as it did. -/
def fnKnotsSpec : ChangeSpec := { name := "fnKnots", fn := fun _ => fun
  | [d] => { results := [.lit (.bool true)], args := [d] }
  | _ => none }
def fnKnotsRow : OpenClaim := { program := "ytkmlcjhlckoajaa", sum := "34f4a44e06f6031bc80b004a10c1fbd53ef2d1a9395b7e2a79bbf4b974f8020e", func := "loop.example/g00915/laws.FnKnots", spec := "fnKnots", unfollowed := true, recurses := true, apart := false }
def FnKnotsSaid : Prop := fnKnotsRow.holds Try.pinned (OpenSpec.ofChange fnKnotsSpec)

/-- ITS FALSE NEIGHBOUR: 'it returns false'. Refute it at one input. -/
def fnKnotsWrong : ChangeSpec := { name := "fnKnots", fn := fun _ => fun
  | [d] => { results := [.lit (.bool false)], args := [d] }
  | _ => none }
def FnKnotsWrongFalsely : Prop := fnKnotsRow.holds Try.pinned (OpenSpec.ofChange fnKnotsWrong)

/-- 'laws.FnRadii': WHATEVER THE INPUT: true; the input reads as it did. -/
def fnRadiiSpec : ChangeSpec := { name := "fnRadii", fn := fun _ => fun
  | [d] => { results := [.lit (.bool true)], args := [d] }
  | _ => none }
def fnRadiiRow : OpenClaim := { program := "ytkmlcjhlckoajaa", sum := "34f4a44e06f6031bc80b004a10c1fbd53ef2d1a9395b7e2a79bbf4b974f8020e", func := "loop.example/g00915/laws.FnRadii", spec := "fnRadii", apart := false }
def FnRadiiSaid : Prop := fnRadiiRow.holds Try.pinned (OpenSpec.ofChange fnRadiiSpec)

/-- ITS FALSE NEIGHBOUR: 'it returns false'. Refute it at one input. -/
def fnRadiiWrong : ChangeSpec := { name := "fnRadii", fn := fun _ => fun
  | [d] => { results := [.lit (.bool false)], args := [d] }
  | _ => none }
def FnRadiiWrongFalsely : Prop := fnRadiiRow.holds Try.pinned (OpenSpec.ofChange fnRadiiWrong)

/-- 'laws.FnSines': WHATEVER THE INPUT: true; the input reads as it did. -/
def fnSinesSpec : ChangeSpec := { name := "fnSines", fn := fun _ => fun
  | [d] => { results := [.lit (.bool true)], args := [d] }
  | _ => none }
def fnSinesRow : OpenClaim := { program := "ytkmlcjhlckoajaa", sum := "34f4a44e06f6031bc80b004a10c1fbd53ef2d1a9395b7e2a79bbf4b974f8020e", func := "loop.example/g00915/laws.FnSines", spec := "fnSines", apart := false }
def FnSinesSaid : Prop := fnSinesRow.holds Try.pinned (OpenSpec.ofChange fnSinesSpec)

/-- ITS FALSE NEIGHBOUR: 'it returns false'. Refute it at one input. -/
def fnSinesWrong : ChangeSpec := { name := "fnSines", fn := fun _ => fun
  | [d] => { results := [.lit (.bool false)], args := [d] }
  | _ => none }
def FnSinesWrongFalsely : Prop := fnSinesRow.holds Try.pinned (OpenSpec.ofChange fnSinesWrong)

/-- 'laws.FnTurningSpeeds': WHATEVER THE INPUT: true; the input reads as it did. -/
def fnTurningSpeedsSpec : ChangeSpec := { name := "fnTurningSpeeds", fn := fun _ => fun
  | [d] => { results := [.lit (.bool true)], args := [d] }
  | _ => none }
def fnTurningSpeedsRow : OpenClaim := { program := "ytkmlcjhlckoajaa", sum := "34f4a44e06f6031bc80b004a10c1fbd53ef2d1a9395b7e2a79bbf4b974f8020e", func := "loop.example/g00915/laws.FnTurningSpeeds", spec := "fnTurningSpeeds", apart := false }
def FnTurningSpeedsSaid : Prop := fnTurningSpeedsRow.holds Try.pinned (OpenSpec.ofChange fnTurningSpeedsSpec)

/-- ITS FALSE NEIGHBOUR: 'it returns false'. Refute it at one input. -/
def fnTurningSpeedsWrong : ChangeSpec := { name := "fnTurningSpeeds", fn := fun _ => fun
  | [d] => { results := [.lit (.bool false)], args := [d] }
  | _ => none }
def FnTurningSpeedsWrongFalsely : Prop := fnTurningSpeedsRow.holds Try.pinned (OpenSpec.ofChange fnTurningSpeedsWrong)

/-- 'laws.FnCrossings': WHATEVER THE INPUT: true; the input reads as it did. -/
def fnCrossingsSpec : ChangeSpec := { name := "fnCrossings", fn := fun _ => fun
  | [d] => { results := [.lit (.bool true)], args := [d] }
  | _ => none }
def fnCrossingsRow : OpenClaim := { program := "ytkmlcjhlckoajaa", sum := "34f4a44e06f6031bc80b004a10c1fbd53ef2d1a9395b7e2a79bbf4b974f8020e", func := "loop.example/g00915/laws.FnCrossings", spec := "fnCrossings", apart := false }
def FnCrossingsSaid : Prop := fnCrossingsRow.holds Try.pinned (OpenSpec.ofChange fnCrossingsSpec)

/-- ITS FALSE NEIGHBOUR: 'it returns false'. Refute it at one input. -/
def fnCrossingsWrong : ChangeSpec := { name := "fnCrossings", fn := fun _ => fun
  | [d] => { results := [.lit (.bool false)], args := [d] }
  | _ => none }
def FnCrossingsWrongFalsely : Prop := fnCrossingsRow.holds Try.pinned (OpenSpec.ofChange fnCrossingsWrong)

/-- 'laws.FnTurnings': WHATEVER THE INPUT: true; the input reads as it did. -/
def fnTurningsSpec : ChangeSpec := { name := "fnTurnings", fn := fun _ => fun
  | [d] => { results := [.lit (.bool true)], args := [d] }
  | _ => none }
def fnTurningsRow : OpenClaim := { program := "ytkmlcjhlckoajaa", sum := "34f4a44e06f6031bc80b004a10c1fbd53ef2d1a9395b7e2a79bbf4b974f8020e", func := "loop.example/g00915/laws.FnTurnings", spec := "fnTurnings", apart := false }
def FnTurningsSaid : Prop := fnTurningsRow.holds Try.pinned (OpenSpec.ofChange fnTurningsSpec)

/-- ITS FALSE NEIGHBOUR: 'it returns false'. Refute it at one input. -/
def fnTurningsWrong : ChangeSpec := { name := "fnTurnings", fn := fun _ => fun
  | [d] => { results := [.lit (.bool false)], args := [d] }
  | _ => none }
def FnTurningsWrongFalsely : Prop := fnTurningsRow.holds Try.pinned (OpenSpec.ofChange fnTurningsWrong)

/-- 'laws.FnRaySteps': WHATEVER THE INPUT: true; the input reads as it did. -/
def fnRayStepsSpec : ChangeSpec := { name := "fnRaySteps", fn := fun _ => fun
  | [d] => { results := [.lit (.bool true)], args := [d] }
  | _ => none }
def fnRayStepsRow : OpenClaim := { program := "ytkmlcjhlckoajaa", sum := "34f4a44e06f6031bc80b004a10c1fbd53ef2d1a9395b7e2a79bbf4b974f8020e", func := "loop.example/g00915/laws.FnRaySteps", spec := "fnRaySteps", apart := false }
def FnRayStepsSaid : Prop := fnRayStepsRow.holds Try.pinned (OpenSpec.ofChange fnRayStepsSpec)

/-- ITS FALSE NEIGHBOUR: 'it returns false'. Refute it at one input. -/
def fnRayStepsWrong : ChangeSpec := { name := "fnRaySteps", fn := fun _ => fun
  | [d] => { results := [.lit (.bool false)], args := [d] }
  | _ => none }
def FnRayStepsWrongFalsely : Prop := fnRayStepsRow.holds Try.pinned (OpenSpec.ofChange fnRayStepsWrong)

/- THE SECOND FORM. 'bulk': how many values and letters a reading holds, each counted each time it is reached (what is shared counts as often as it is met; a slice's spare places count too). A statement '..UptoSaid' is the law's where the arguments, and the package variables that the reading takes, are together of bulk at most 1048576: NARROWER than '..Said'. Prove '..Said' where nothing that the law and all that it calls make is longer than what came in: it says more and counts as full. Else prove '..UptoSaid'. A law counts once. -/
mutual
def uptoBulk {H : Type} : DataW H → Nat
  | .lit (.string bytes) => bytes.length + 1
  | .lit _ => 1
  | .nil => 1
  | .ptr d => uptoBulk d + 1
  | .slice elems spare => uptoBulkAll elems + uptoBulkAll spare + 1
  | .agg parts => uptoBulkAll parts + 1
  | .iface _ d => uptoBulk d + 1
  | .map entries => uptoBulkEntries entries + 1
  | .held _ => 1
def uptoBulkAll {H : Type} : List (DataW H) → Nat
  | [] => 0
  | d :: r => uptoBulk d + uptoBulkAll r
def uptoBulkEntries {H : Type} : List (Lit × DataW H) → Nat
  | [] => 0
  | x :: r => uptoBulkEntry x + uptoBulkEntries r
def uptoBulkEntry {H : Type} : Lit × DataW H → Nat
  | (.string bytes, d) => bytes.length + uptoBulk d + 1
  | (_, d) => uptoBulk d + 1
 end
def uptoSmall : (H : Type) → List (DataW H) → Bool := fun _ ds => decide (uptoBulkAll ds ≤ 1048576)
def OpenSpec.upto (s : _root_.Go.ChangeSpec) : _root_.Go.OpenSpec := { _root_.Go.OpenSpec.ofChange s with cond := some uptoSmall }

/-- 'laws.FnSpeeds', WHERE WHAT IT READS IS OF BULK AT MOST 1048576: true; the input reads as it did. -/
def fnSpeedsUptoRow : OpenClaim := { program := "ytkmlcjhlckoajaa", sum := "34f4a44e06f6031bc80b004a10c1fbd53ef2d1a9395b7e2a79bbf4b974f8020e", func := "loop.example/g00915/laws.FnSpeeds", spec := "fnSpeeds", unfollowed := true, recurses := true, apart := false, narrowed := true }
def FnSpeedsUptoSaid : Prop := fnSpeedsUptoRow.holds Try.pinned (OpenSpec.upto fnSpeedsSpec)

/-- 'laws.FnKnots', WHERE WHAT IT READS IS OF BULK AT MOST 1048576: true; the input reads as it did. -/
def fnKnotsUptoRow : OpenClaim := { program := "ytkmlcjhlckoajaa", sum := "34f4a44e06f6031bc80b004a10c1fbd53ef2d1a9395b7e2a79bbf4b974f8020e", func := "loop.example/g00915/laws.FnKnots", spec := "fnKnots", unfollowed := true, recurses := true, apart := false, narrowed := true }
def FnKnotsUptoSaid : Prop := fnKnotsUptoRow.holds Try.pinned (OpenSpec.upto fnKnotsSpec)

/-- 'laws.FnRadii', WHERE WHAT IT READS IS OF BULK AT MOST 1048576: true; the input reads as it did. -/
def fnRadiiUptoRow : OpenClaim := { program := "ytkmlcjhlckoajaa", sum := "34f4a44e06f6031bc80b004a10c1fbd53ef2d1a9395b7e2a79bbf4b974f8020e", func := "loop.example/g00915/laws.FnRadii", spec := "fnRadii", apart := false, narrowed := true }
def FnRadiiUptoSaid : Prop := fnRadiiUptoRow.holds Try.pinned (OpenSpec.upto fnRadiiSpec)

/-- 'laws.FnSines', WHERE WHAT IT READS IS OF BULK AT MOST 1048576: true; the input reads as it did. -/
def fnSinesUptoRow : OpenClaim := { program := "ytkmlcjhlckoajaa", sum := "34f4a44e06f6031bc80b004a10c1fbd53ef2d1a9395b7e2a79bbf4b974f8020e", func := "loop.example/g00915/laws.FnSines", spec := "fnSines", apart := false, narrowed := true }
def FnSinesUptoSaid : Prop := fnSinesUptoRow.holds Try.pinned (OpenSpec.upto fnSinesSpec)

/-- 'laws.FnTurningSpeeds', WHERE WHAT IT READS IS OF BULK AT MOST 1048576: true; the input reads as it did. -/
def fnTurningSpeedsUptoRow : OpenClaim := { program := "ytkmlcjhlckoajaa", sum := "34f4a44e06f6031bc80b004a10c1fbd53ef2d1a9395b7e2a79bbf4b974f8020e", func := "loop.example/g00915/laws.FnTurningSpeeds", spec := "fnTurningSpeeds", apart := false, narrowed := true }
def FnTurningSpeedsUptoSaid : Prop := fnTurningSpeedsUptoRow.holds Try.pinned (OpenSpec.upto fnTurningSpeedsSpec)

/-- 'laws.FnCrossings', WHERE WHAT IT READS IS OF BULK AT MOST 1048576: true; the input reads as it did. -/
def fnCrossingsUptoRow : OpenClaim := { program := "ytkmlcjhlckoajaa", sum := "34f4a44e06f6031bc80b004a10c1fbd53ef2d1a9395b7e2a79bbf4b974f8020e", func := "loop.example/g00915/laws.FnCrossings", spec := "fnCrossings", apart := false, narrowed := true }
def FnCrossingsUptoSaid : Prop := fnCrossingsUptoRow.holds Try.pinned (OpenSpec.upto fnCrossingsSpec)

/-- 'laws.FnTurnings', WHERE WHAT IT READS IS OF BULK AT MOST 1048576: true; the input reads as it did. -/
def fnTurningsUptoRow : OpenClaim := { program := "ytkmlcjhlckoajaa", sum := "34f4a44e06f6031bc80b004a10c1fbd53ef2d1a9395b7e2a79bbf4b974f8020e", func := "loop.example/g00915/laws.FnTurnings", spec := "fnTurnings", apart := false, narrowed := true }
def FnTurningsUptoSaid : Prop := fnTurningsUptoRow.holds Try.pinned (OpenSpec.upto fnTurningsSpec)

/-- 'laws.FnRaySteps', WHERE WHAT IT READS IS OF BULK AT MOST 1048576: true; the input reads as it did. -/
def fnRayStepsUptoRow : OpenClaim := { program := "ytkmlcjhlckoajaa", sum := "34f4a44e06f6031bc80b004a10c1fbd53ef2d1a9395b7e2a79bbf4b974f8020e", func := "loop.example/g00915/laws.FnRaySteps", spec := "fnRaySteps", apart := false, narrowed := true }
def FnRayStepsUptoSaid : Prop := fnRayStepsUptoRow.holds Try.pinned (OpenSpec.upto fnRayStepsSpec)

end Rows
end Go.Proofs.Ytkmlcjhlckoajaa
