/-
  No cell of these rows narrows 'for every input' (looked for: loops, veiled, ifaces, maps, wideKeys, modest, calm, conditions, laid).
  DERIVED. THE GIVEN ROWS OF THIS SEAT. 10 by the template 'for every input the law returns true; each argument reads behind the call as it read before'; 0 by the template 'total and deterministic' (their statements: YtjddnelnmmafdaaTotals.lean).
  GIVEN WITH THE SEED: the statements are not yours to turn. If you find one false, say at which input.
  Laid BY PROGRAM, IN A SANDBOX (cutbox-rows.mjs): the forced cells as the released guide's own fill.sh prints them over the translation 2717b3d2eafa7a3f… (all of the seat's roots in one cut). By AI agents, Wed Nov 11 2026. No macro, syntax, notation, axiom, sorry.
-/
import Derived.Test.YtjddnelnmmafdaaChecked
import GoSem.Claim
import GoSem.ClaimJoined
import GoSem.ClaimMapViews
import Derived.JoinedTies
import Derived.KernelRfl
namespace Go.Proofs.Ytjddnelnmmafdaa
/- THE CELL 'sum', in the pinned program and in every row, IS THE sha256 OF THE DUMP (.gsa) THAT YtjddnelnmmafdaaProg.lean LOADS. Nothing in Lean hashes anything: it is a label: what it is worth is what the hold of that sum in a sandbox is worth. -/
noncomputable def Try.pinned : Pinned := { name := "ytjddnelnmmafdaa", sum := "2717b3d2eafa7a3fee70848f97de152d5fb3903c6f8315728f87cdef44f9c3d3", checked := Try.checked }
namespace Rows
def none {H : Type} : Left H := { results := [], args := [] }

/-- 'laws.FnExactJoinGauges': WHATEVER THE INPUT: true; the input reads as it did. -/
def fnExactJoinGaugesSpec : ChangeSpec := { name := "fnExactJoinGauges", fn := fun _ => fun
  | [d1, d2] => { results := [.lit (.bool true)], args := [d1, d2] }
  | _ => none }
def fnExactJoinGaugesRow : OpenClaim := { program := "ytjddnelnmmafdaa", sum := "2717b3d2eafa7a3fee70848f97de152d5fb3903c6f8315728f87cdef44f9c3d3", func := "loop.example/g00915/laws.FnExactJoinGauges", spec := "fnExactJoinGauges", plainKeys := false, apart := false }
def FnExactJoinGaugesSaid : Prop := fnExactJoinGaugesRow.holds Try.pinned (OpenSpec.ofChange fnExactJoinGaugesSpec)

/-- ITS FALSE NEIGHBOUR: 'it returns false'. Refute it at one input. -/
def fnExactJoinGaugesWrong : ChangeSpec := { name := "fnExactJoinGauges", fn := fun _ => fun
  | [d1, d2] => { results := [.lit (.bool false)], args := [d1, d2] }
  | _ => none }
def FnExactJoinGaugesWrongFalsely : Prop := fnExactJoinGaugesRow.holds Try.pinned (OpenSpec.ofChange fnExactJoinGaugesWrong)

/-- 'laws.FnExactMeanLevel': WHATEVER THE INPUT: true; the input reads as it did. -/
def fnExactMeanLevelSpec : ChangeSpec := { name := "fnExactMeanLevel", fn := fun _ => fun
  | [d] => { results := [.lit (.bool true)], args := [d] }
  | _ => none }
def fnExactMeanLevelRow : OpenClaim := { program := "ytjddnelnmmafdaa", sum := "2717b3d2eafa7a3fee70848f97de152d5fb3903c6f8315728f87cdef44f9c3d3", func := "loop.example/g00915/laws.FnExactMeanLevel", spec := "fnExactMeanLevel", plainKeys := false, apart := false }
def FnExactMeanLevelSaid : Prop := fnExactMeanLevelRow.holds Try.pinned (OpenSpec.ofChange fnExactMeanLevelSpec)

/-- ITS FALSE NEIGHBOUR: 'it returns false'. Refute it at one input. -/
def fnExactMeanLevelWrong : ChangeSpec := { name := "fnExactMeanLevel", fn := fun _ => fun
  | [d] => { results := [.lit (.bool false)], args := [d] }
  | _ => none }
def FnExactMeanLevelWrongFalsely : Prop := fnExactMeanLevelRow.holds Try.pinned (OpenSpec.ofChange fnExactMeanLevelWrong)

/-- 'laws.FnExactLevelAt': WHATEVER THE INPUT: true; the input reads as it did. -/
def fnExactLevelAtSpec : ChangeSpec := { name := "fnExactLevelAt", fn := fun _ => fun
  | [d1, d2] => { results := [.lit (.bool true)], args := [d1, d2] }
  | _ => none }
def fnExactLevelAtRow : OpenClaim := { program := "ytjddnelnmmafdaa", sum := "2717b3d2eafa7a3fee70848f97de152d5fb3903c6f8315728f87cdef44f9c3d3", func := "loop.example/g00915/laws.FnExactLevelAt", spec := "fnExactLevelAt", plainKeys := false, apart := false }
def FnExactLevelAtSaid : Prop := fnExactLevelAtRow.holds Try.pinned (OpenSpec.ofChange fnExactLevelAtSpec)

/-- ITS FALSE NEIGHBOUR: 'it returns false'. Refute it at one input. -/
def fnExactLevelAtWrong : ChangeSpec := { name := "fnExactLevelAt", fn := fun _ => fun
  | [d1, d2] => { results := [.lit (.bool false)], args := [d1, d2] }
  | _ => none }
def FnExactLevelAtWrongFalsely : Prop := fnExactLevelAtRow.holds Try.pinned (OpenSpec.ofChange fnExactLevelAtWrong)

/-- 'laws.FnExactConflictPairs': WHATEVER THE INPUT: true; the input reads as it did. -/
def fnExactConflictPairsSpec : ChangeSpec := { name := "fnExactConflictPairs", fn := fun _ => fun
  | [d1, d2] => { results := [.lit (.bool true)], args := [d1, d2] }
  | _ => none }
def fnExactConflictPairsRow : OpenClaim := { program := "ytjddnelnmmafdaa", sum := "2717b3d2eafa7a3fee70848f97de152d5fb3903c6f8315728f87cdef44f9c3d3", func := "loop.example/g00915/laws.FnExactConflictPairs", spec := "fnExactConflictPairs", unfollowed := true, recurses := true, plainKeys := false, apart := false }
def FnExactConflictPairsSaid : Prop := fnExactConflictPairsRow.holds Try.pinned (OpenSpec.ofChange fnExactConflictPairsSpec)

/-- ITS FALSE NEIGHBOUR: 'it returns false'. Refute it at one input. -/
def fnExactConflictPairsWrong : ChangeSpec := { name := "fnExactConflictPairs", fn := fun _ => fun
  | [d1, d2] => { results := [.lit (.bool false)], args := [d1, d2] }
  | _ => none }
def FnExactConflictPairsWrongFalsely : Prop := fnExactConflictPairsRow.holds Try.pinned (OpenSpec.ofChange fnExactConflictPairsWrong)

/-- 'laws.FnExactReduceSounding': WHATEVER THE INPUT: true; the input reads as it did. -/
def fnExactReduceSoundingSpec : ChangeSpec := { name := "fnExactReduceSounding", fn := fun _ => fun
  | [d1, d2, d3] => { results := [.lit (.bool true)], args := [d1, d2, d3] }
  | _ => none }
def fnExactReduceSoundingRow : OpenClaim := { program := "ytjddnelnmmafdaa", sum := "2717b3d2eafa7a3fee70848f97de152d5fb3903c6f8315728f87cdef44f9c3d3", func := "loop.example/g00915/laws.FnExactReduceSounding", spec := "fnExactReduceSounding", plainKeys := false, apart := false }
def FnExactReduceSoundingSaid : Prop := fnExactReduceSoundingRow.holds Try.pinned (OpenSpec.ofChange fnExactReduceSoundingSpec)

/-- ITS FALSE NEIGHBOUR: 'it returns false'. Refute it at one input. -/
def fnExactReduceSoundingWrong : ChangeSpec := { name := "fnExactReduceSounding", fn := fun _ => fun
  | [d1, d2, d3] => { results := [.lit (.bool false)], args := [d1, d2, d3] }
  | _ => none }
def FnExactReduceSoundingWrongFalsely : Prop := fnExactReduceSoundingRow.holds Try.pinned (OpenSpec.ofChange fnExactReduceSoundingWrong)

/-- 'laws.FnExactThinSoundings': WHATEVER THE INPUT: true; the input reads as it did. -/
def fnExactThinSoundingsSpec : ChangeSpec := { name := "fnExactThinSoundings", fn := fun _ => fun
  | [d1, d2] => { results := [.lit (.bool true)], args := [d1, d2] }
  | _ => none }
def fnExactThinSoundingsRow : OpenClaim := { program := "ytjddnelnmmafdaa", sum := "2717b3d2eafa7a3fee70848f97de152d5fb3903c6f8315728f87cdef44f9c3d3", func := "loop.example/g00915/laws.FnExactThinSoundings", spec := "fnExactThinSoundings", unfollowed := true, recurses := true, plainKeys := false, apart := false }
def FnExactThinSoundingsSaid : Prop := fnExactThinSoundingsRow.holds Try.pinned (OpenSpec.ofChange fnExactThinSoundingsSpec)

/-- ITS FALSE NEIGHBOUR: 'it returns false'. Refute it at one input. -/
def fnExactThinSoundingsWrong : ChangeSpec := { name := "fnExactThinSoundings", fn := fun _ => fun
  | [d1, d2] => { results := [.lit (.bool false)], args := [d1, d2] }
  | _ => none }
def FnExactThinSoundingsWrongFalsely : Prop := fnExactThinSoundingsRow.holds Try.pinned (OpenSpec.ofChange fnExactThinSoundingsWrong)

/-- 'laws.FnConflicts': WHATEVER THE INPUT: true; the input reads as it did. -/
def fnConflictsSpec : ChangeSpec := { name := "fnConflicts", fn := fun _ => fun
  | [d] => { results := [.lit (.bool true)], args := [d] }
  | _ => none }
def fnConflictsRow : OpenClaim := { program := "ytjddnelnmmafdaa", sum := "2717b3d2eafa7a3fee70848f97de152d5fb3903c6f8315728f87cdef44f9c3d3", func := "loop.example/g00915/laws.FnConflicts", spec := "fnConflicts", unfollowed := true, recurses := true, plainKeys := false, apart := false }
def FnConflictsSaid : Prop := fnConflictsRow.holds Try.pinned (OpenSpec.ofChange fnConflictsSpec)

/-- ITS FALSE NEIGHBOUR: 'it returns false'. Refute it at one input. -/
def fnConflictsWrong : ChangeSpec := { name := "fnConflicts", fn := fun _ => fun
  | [d] => { results := [.lit (.bool false)], args := [d] }
  | _ => none }
def FnConflictsWrongFalsely : Prop := fnConflictsRow.holds Try.pinned (OpenSpec.ofChange fnConflictsWrong)

/-- 'laws.FnReduced': WHATEVER THE INPUT: true; the input reads as it did. -/
def fnReducedSpec : ChangeSpec := { name := "fnReduced", fn := fun _ => fun
  | [d] => { results := [.lit (.bool true)], args := [d] }
  | _ => none }
def fnReducedRow : OpenClaim := { program := "ytjddnelnmmafdaa", sum := "2717b3d2eafa7a3fee70848f97de152d5fb3903c6f8315728f87cdef44f9c3d3", func := "loop.example/g00915/laws.FnReduced", spec := "fnReduced", plainKeys := false, apart := false }
def FnReducedSaid : Prop := fnReducedRow.holds Try.pinned (OpenSpec.ofChange fnReducedSpec)

/-- ITS FALSE NEIGHBOUR: 'it returns false'. Refute it at one input. -/
def fnReducedWrong : ChangeSpec := { name := "fnReduced", fn := fun _ => fun
  | [d] => { results := [.lit (.bool false)], args := [d] }
  | _ => none }
def FnReducedWrongFalsely : Prop := fnReducedRow.holds Try.pinned (OpenSpec.ofChange fnReducedWrong)

/-- 'laws.FnWaters': WHATEVER THE INPUT: true; the input reads as it did. -/
def fnWatersSpec : ChangeSpec := { name := "fnWaters", fn := fun _ => fun
  | [d] => { results := [.lit (.bool true)], args := [d] }
  | _ => none }
def fnWatersRow : OpenClaim := { program := "ytjddnelnmmafdaa", sum := "2717b3d2eafa7a3fee70848f97de152d5fb3903c6f8315728f87cdef44f9c3d3", func := "loop.example/g00915/laws.FnWaters", spec := "fnWaters", plainKeys := false, apart := false }
def FnWatersSaid : Prop := fnWatersRow.holds Try.pinned (OpenSpec.ofChange fnWatersSpec)

/-- ITS FALSE NEIGHBOUR: 'it returns false'. Refute it at one input. -/
def fnWatersWrong : ChangeSpec := { name := "fnWaters", fn := fun _ => fun
  | [d] => { results := [.lit (.bool false)], args := [d] }
  | _ => none }
def FnWatersWrongFalsely : Prop := fnWatersRow.holds Try.pinned (OpenSpec.ofChange fnWatersWrong)

/-- 'laws.FnLevels': WHATEVER THE INPUT: true; the input reads as it did. -/
def fnLevelsSpec : ChangeSpec := { name := "fnLevels", fn := fun _ => fun
  | [d] => { results := [.lit (.bool true)], args := [d] }
  | _ => none }
def fnLevelsRow : OpenClaim := { program := "ytjddnelnmmafdaa", sum := "2717b3d2eafa7a3fee70848f97de152d5fb3903c6f8315728f87cdef44f9c3d3", func := "loop.example/g00915/laws.FnLevels", spec := "fnLevels", plainKeys := false, apart := false }
def FnLevelsSaid : Prop := fnLevelsRow.holds Try.pinned (OpenSpec.ofChange fnLevelsSpec)

/-- ITS FALSE NEIGHBOUR: 'it returns false'. Refute it at one input. -/
def fnLevelsWrong : ChangeSpec := { name := "fnLevels", fn := fun _ => fun
  | [d] => { results := [.lit (.bool false)], args := [d] }
  | _ => none }
def FnLevelsWrongFalsely : Prop := fnLevelsRow.holds Try.pinned (OpenSpec.ofChange fnLevelsWrong)

/- THE SECOND FORM. 'bulk': how many values and letters a reading holds, each counted each time it is reached (what is shared counts as often as it is met; a slice's spare places count too). A statement '..UptoSaid' is the law's where the arguments, and the package variables that the reading takes, are together of bulk at most 1048576: NARROWER than '..Said'. Prove '..Said' where nothing that the law and all that it calls make is longer than what came in: it says more and counts as full. Else prove '..UptoSaid'. A law counts once. -/
mutual
def uptoBulk {H : Type} : DataW H → Nat
  | .lit (.string bytes) => bytes.length + 1
  | .lit _ => 1
  | .nil => 1
  | .ptr d => uptoBulk d + 1
  | .slice elems spare => uptoBulkAll elems + uptoBulkAll spare + 1
  | .agg parts => uptoBulkAll parts + 1
  | .iface _ d => uptoBulk d + 1
  | .map entries => uptoBulkEntries entries + 1
  | .held _ => 1
def uptoBulkAll {H : Type} : List (DataW H) → Nat
  | [] => 0
  | d :: r => uptoBulk d + uptoBulkAll r
def uptoBulkEntries {H : Type} : List (Lit × DataW H) → Nat
  | [] => 0
  | x :: r => uptoBulkEntry x + uptoBulkEntries r
def uptoBulkEntry {H : Type} : Lit × DataW H → Nat
  | (.string bytes, d) => bytes.length + uptoBulk d + 1
  | (_, d) => uptoBulk d + 1
 end
def uptoSmall : (H : Type) → List (DataW H) → Bool := fun _ ds => decide (uptoBulkAll ds ≤ 1048576)
def OpenSpec.upto (s : _root_.Go.ChangeSpec) : _root_.Go.OpenSpec := { _root_.Go.OpenSpec.ofChange s with cond := some uptoSmall }

/-- 'laws.FnExactJoinGauges', WHERE WHAT IT READS IS OF BULK AT MOST 1048576: true; the input reads as it did. -/
def fnExactJoinGaugesUptoRow : OpenClaim := { program := "ytjddnelnmmafdaa", sum := "2717b3d2eafa7a3fee70848f97de152d5fb3903c6f8315728f87cdef44f9c3d3", func := "loop.example/g00915/laws.FnExactJoinGauges", spec := "fnExactJoinGauges", plainKeys := false, apart := false, narrowed := true }
def FnExactJoinGaugesUptoSaid : Prop := fnExactJoinGaugesUptoRow.holds Try.pinned (OpenSpec.upto fnExactJoinGaugesSpec)

/-- 'laws.FnExactMeanLevel', WHERE WHAT IT READS IS OF BULK AT MOST 1048576: true; the input reads as it did. -/
def fnExactMeanLevelUptoRow : OpenClaim := { program := "ytjddnelnmmafdaa", sum := "2717b3d2eafa7a3fee70848f97de152d5fb3903c6f8315728f87cdef44f9c3d3", func := "loop.example/g00915/laws.FnExactMeanLevel", spec := "fnExactMeanLevel", plainKeys := false, apart := false, narrowed := true }
def FnExactMeanLevelUptoSaid : Prop := fnExactMeanLevelUptoRow.holds Try.pinned (OpenSpec.upto fnExactMeanLevelSpec)

/-- 'laws.FnExactLevelAt', WHERE WHAT IT READS IS OF BULK AT MOST 1048576: true; the input reads as it did. -/
def fnExactLevelAtUptoRow : OpenClaim := { program := "ytjddnelnmmafdaa", sum := "2717b3d2eafa7a3fee70848f97de152d5fb3903c6f8315728f87cdef44f9c3d3", func := "loop.example/g00915/laws.FnExactLevelAt", spec := "fnExactLevelAt", plainKeys := false, apart := false, narrowed := true }
def FnExactLevelAtUptoSaid : Prop := fnExactLevelAtUptoRow.holds Try.pinned (OpenSpec.upto fnExactLevelAtSpec)

/-- 'laws.FnExactConflictPairs', WHERE WHAT IT READS IS OF BULK AT MOST 1048576: true; the input reads as it did. -/
def fnExactConflictPairsUptoRow : OpenClaim := { program := "ytjddnelnmmafdaa", sum := "2717b3d2eafa7a3fee70848f97de152d5fb3903c6f8315728f87cdef44f9c3d3", func := "loop.example/g00915/laws.FnExactConflictPairs", spec := "fnExactConflictPairs", unfollowed := true, recurses := true, plainKeys := false, apart := false, narrowed := true }
def FnExactConflictPairsUptoSaid : Prop := fnExactConflictPairsUptoRow.holds Try.pinned (OpenSpec.upto fnExactConflictPairsSpec)

/-- 'laws.FnExactReduceSounding', WHERE WHAT IT READS IS OF BULK AT MOST 1048576: true; the input reads as it did. -/
def fnExactReduceSoundingUptoRow : OpenClaim := { program := "ytjddnelnmmafdaa", sum := "2717b3d2eafa7a3fee70848f97de152d5fb3903c6f8315728f87cdef44f9c3d3", func := "loop.example/g00915/laws.FnExactReduceSounding", spec := "fnExactReduceSounding", plainKeys := false, apart := false, narrowed := true }
def FnExactReduceSoundingUptoSaid : Prop := fnExactReduceSoundingUptoRow.holds Try.pinned (OpenSpec.upto fnExactReduceSoundingSpec)

/-- 'laws.FnExactThinSoundings', WHERE WHAT IT READS IS OF BULK AT MOST 1048576: true; the input reads as it did. -/
def fnExactThinSoundingsUptoRow : OpenClaim := { program := "ytjddnelnmmafdaa", sum := "2717b3d2eafa7a3fee70848f97de152d5fb3903c6f8315728f87cdef44f9c3d3", func := "loop.example/g00915/laws.FnExactThinSoundings", spec := "fnExactThinSoundings", unfollowed := true, recurses := true, plainKeys := false, apart := false, narrowed := true }
def FnExactThinSoundingsUptoSaid : Prop := fnExactThinSoundingsUptoRow.holds Try.pinned (OpenSpec.upto fnExactThinSoundingsSpec)

/-- 'laws.FnConflicts', WHERE WHAT IT READS IS OF BULK AT MOST 1048576: true; the input reads as it did. -/
def fnConflictsUptoRow : OpenClaim := { program := "ytjddnelnmmafdaa", sum := "2717b3d2eafa7a3fee70848f97de152d5fb3903c6f8315728f87cdef44f9c3d3", func := "loop.example/g00915/laws.FnConflicts", spec := "fnConflicts", unfollowed := true, recurses := true, plainKeys := false, apart := false, narrowed := true }
def FnConflictsUptoSaid : Prop := fnConflictsUptoRow.holds Try.pinned (OpenSpec.upto fnConflictsSpec)

/-- 'laws.FnReduced', WHERE WHAT IT READS IS OF BULK AT MOST 1048576: true; the input reads as it did. -/
def fnReducedUptoRow : OpenClaim := { program := "ytjddnelnmmafdaa", sum := "2717b3d2eafa7a3fee70848f97de152d5fb3903c6f8315728f87cdef44f9c3d3", func := "loop.example/g00915/laws.FnReduced", spec := "fnReduced", plainKeys := false, apart := false, narrowed := true }
def FnReducedUptoSaid : Prop := fnReducedUptoRow.holds Try.pinned (OpenSpec.upto fnReducedSpec)

/-- 'laws.FnWaters', WHERE WHAT IT READS IS OF BULK AT MOST 1048576: true; the input reads as it did. -/
def fnWatersUptoRow : OpenClaim := { program := "ytjddnelnmmafdaa", sum := "2717b3d2eafa7a3fee70848f97de152d5fb3903c6f8315728f87cdef44f9c3d3", func := "loop.example/g00915/laws.FnWaters", spec := "fnWaters", plainKeys := false, apart := false, narrowed := true }
def FnWatersUptoSaid : Prop := fnWatersUptoRow.holds Try.pinned (OpenSpec.upto fnWatersSpec)

/-- 'laws.FnLevels', WHERE WHAT IT READS IS OF BULK AT MOST 1048576: true; the input reads as it did. -/
def fnLevelsUptoRow : OpenClaim := { program := "ytjddnelnmmafdaa", sum := "2717b3d2eafa7a3fee70848f97de152d5fb3903c6f8315728f87cdef44f9c3d3", func := "loop.example/g00915/laws.FnLevels", spec := "fnLevels", plainKeys := false, apart := false, narrowed := true }
def FnLevelsUptoSaid : Prop := fnLevelsUptoRow.holds Try.pinned (OpenSpec.upto fnLevelsSpec)

end Rows
end Go.Proofs.Ytjddnelnmmafdaa
