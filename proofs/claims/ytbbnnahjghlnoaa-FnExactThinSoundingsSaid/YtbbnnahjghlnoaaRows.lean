/-
  No cell of these rows narrows 'for every input' (looked for: loops, veiled, ifaces, maps, wideKeys, modest, calm, conditions, laid).
  DERIVED. THE GIVEN ROWS OF THIS SEAT. 3 by the template 'for every input the law returns true; each argument reads behind the call as it read before'; 0 by the template 'total and deterministic' (their statements: YtbbnnahjghlnoaaTotals.lean).
  GIVEN WITH THE SEED: the statements are not yours to turn. If you find one false, say at which input.
  Laid BY PROGRAM, IN A SANDBOX (cutbox-rows.mjs): the forced cells as the released guide's own fill.sh prints them over the translation 017ee4ba5aaa1b16… (all of the seat's roots in one cut). By AI agents, Wed Nov 11 2026. No macro, syntax, notation, axiom, sorry.
-/
import Derived.Test.YtbbnnahjghlnoaaChecked
import GoSem.Claim
import GoSem.ClaimJoined
import GoSem.ClaimMapViews
import Derived.JoinedTies
import Derived.KernelRfl
namespace Go.Proofs.Ytbbnnahjghlnoaa
/- THE CELL 'sum', in the pinned program and in every row, IS THE sha256 OF THE DUMP (.gsa) THAT YtbbnnahjghlnoaaProg.lean LOADS. Nothing in Lean hashes anything: it is a label: what it is worth is what the hold of that sum in a sandbox is worth. -/
noncomputable def Try.pinned : Pinned := { name := "ytbbnnahjghlnoaa", sum := "017ee4ba5aaa1b16343121461d6341edffa059b6536da47797f0b6b260f039a3", checked := Try.checked }
namespace Rows
def none {H : Type} : Left H := { results := [], args := [] }

/-- 'laws.FnExactConflictPairs': WHATEVER THE INPUT: true; the input reads as it did. -/
def fnExactConflictPairsSpec : ChangeSpec := { name := "fnExactConflictPairs", fn := fun _ => fun
  | [d1, d2] => { results := [.lit (.bool true)], args := [d1, d2] }
  | _ => none }
def fnExactConflictPairsRow : OpenClaim := { program := "ytbbnnahjghlnoaa", sum := "017ee4ba5aaa1b16343121461d6341edffa059b6536da47797f0b6b260f039a3", func := "loop.example/g00915/laws.FnExactConflictPairs", spec := "fnExactConflictPairs", unfollowed := true, recurses := true, plainKeys := false, apart := false }
def FnExactConflictPairsSaid : Prop := fnExactConflictPairsRow.holds Try.pinned (OpenSpec.ofChange fnExactConflictPairsSpec)

/-- ITS FALSE NEIGHBOUR: 'it returns false'. Refute it at one input. -/
def fnExactConflictPairsWrong : ChangeSpec := { name := "fnExactConflictPairs", fn := fun _ => fun
  | [d1, d2] => { results := [.lit (.bool false)], args := [d1, d2] }
  | _ => none }
def FnExactConflictPairsWrongFalsely : Prop := fnExactConflictPairsRow.holds Try.pinned (OpenSpec.ofChange fnExactConflictPairsWrong)

/-- 'laws.FnConflicts': WHATEVER THE INPUT: true; the input reads as it did. -/
def fnConflictsSpec : ChangeSpec := { name := "fnConflicts", fn := fun _ => fun
  | [d] => { results := [.lit (.bool true)], args := [d] }
  | _ => none }
def fnConflictsRow : OpenClaim := { program := "ytbbnnahjghlnoaa", sum := "017ee4ba5aaa1b16343121461d6341edffa059b6536da47797f0b6b260f039a3", func := "loop.example/g00915/laws.FnConflicts", spec := "fnConflicts", unfollowed := true, recurses := true, plainKeys := false, apart := false }
def FnConflictsSaid : Prop := fnConflictsRow.holds Try.pinned (OpenSpec.ofChange fnConflictsSpec)

/-- ITS FALSE NEIGHBOUR: 'it returns false'. Refute it at one input. -/
def fnConflictsWrong : ChangeSpec := { name := "fnConflicts", fn := fun _ => fun
  | [d] => { results := [.lit (.bool false)], args := [d] }
  | _ => none }
def FnConflictsWrongFalsely : Prop := fnConflictsRow.holds Try.pinned (OpenSpec.ofChange fnConflictsWrong)

/-- 'laws.FnExactThinSoundings': WHATEVER THE INPUT: true; the input reads as it did. -/
def fnExactThinSoundingsSpec : ChangeSpec := { name := "fnExactThinSoundings", fn := fun _ => fun
  | [d1, d2] => { results := [.lit (.bool true)], args := [d1, d2] }
  | _ => none }
def fnExactThinSoundingsRow : OpenClaim := { program := "ytbbnnahjghlnoaa", sum := "017ee4ba5aaa1b16343121461d6341edffa059b6536da47797f0b6b260f039a3", func := "loop.example/g00915/laws.FnExactThinSoundings", spec := "fnExactThinSoundings", unfollowed := true, recurses := true, plainKeys := false, apart := false }
def FnExactThinSoundingsSaid : Prop := fnExactThinSoundingsRow.holds Try.pinned (OpenSpec.ofChange fnExactThinSoundingsSpec)

/-- ITS FALSE NEIGHBOUR: 'it returns false'. Refute it at one input. -/
def fnExactThinSoundingsWrong : ChangeSpec := { name := "fnExactThinSoundings", fn := fun _ => fun
  | [d1, d2] => { results := [.lit (.bool false)], args := [d1, d2] }
  | _ => none }
def FnExactThinSoundingsWrongFalsely : Prop := fnExactThinSoundingsRow.holds Try.pinned (OpenSpec.ofChange fnExactThinSoundingsWrong)

/- THE SECOND FORM. 'bulk': how many values and letters a reading holds, each counted each time it is reached (what is shared counts as often as it is met; a slice's spare places count too). A statement '..UptoSaid' is the law's where the arguments, and the package variables that the reading takes, are together of bulk at most 1048576: NARROWER than '..Said'. Prove '..Said' where nothing that the law and all that it calls make is longer than what came in: it says more and counts as full. Else prove '..UptoSaid'. A law counts once. -/
mutual
def uptoBulk {H : Type} : DataW H → Nat
  | .lit (.string bytes) => bytes.length + 1
  | .lit _ => 1
  | .nil => 1
  | .ptr d => uptoBulk d + 1
  | .slice elems spare => uptoBulkAll elems + uptoBulkAll spare + 1
  | .agg parts => uptoBulkAll parts + 1
  | .iface _ d => uptoBulk d + 1
  | .map entries => uptoBulkEntries entries + 1
  | .held _ => 1
def uptoBulkAll {H : Type} : List (DataW H) → Nat
  | [] => 0
  | d :: r => uptoBulk d + uptoBulkAll r
def uptoBulkEntries {H : Type} : List (Lit × DataW H) → Nat
  | [] => 0
  | x :: r => uptoBulkEntry x + uptoBulkEntries r
def uptoBulkEntry {H : Type} : Lit × DataW H → Nat
  | (.string bytes, d) => bytes.length + uptoBulk d + 1
  | (_, d) => uptoBulk d + 1
 end
def uptoSmall : (H : Type) → List (DataW H) → Bool := fun _ ds => decide (uptoBulkAll ds ≤ 1048576)
def OpenSpec.upto (s : _root_.Go.ChangeSpec) : _root_.Go.OpenSpec := { _root_.Go.OpenSpec.ofChange s with cond := some uptoSmall }

/-- 'laws.FnExactConflictPairs', WHERE WHAT IT READS IS OF BULK AT MOST 1048576: true; the input reads as it did. -/
def fnExactConflictPairsUptoRow : OpenClaim := { program := "ytbbnnahjghlnoaa", sum := "017ee4ba5aaa1b16343121461d6341edffa059b6536da47797f0b6b260f039a3", func := "loop.example/g00915/laws.FnExactConflictPairs", spec := "fnExactConflictPairs", unfollowed := true, recurses := true, plainKeys := false, apart := false, narrowed := true }
def FnExactConflictPairsUptoSaid : Prop := fnExactConflictPairsUptoRow.holds Try.pinned (OpenSpec.upto fnExactConflictPairsSpec)

/-- 'laws.FnConflicts', WHERE WHAT IT READS IS OF BULK AT MOST 1048576: true; the input reads as it did. -/
def fnConflictsUptoRow : OpenClaim := { program := "ytbbnnahjghlnoaa", sum := "017ee4ba5aaa1b16343121461d6341edffa059b6536da47797f0b6b260f039a3", func := "loop.example/g00915/laws.FnConflicts", spec := "fnConflicts", unfollowed := true, recurses := true, plainKeys := false, apart := false, narrowed := true }
def FnConflictsUptoSaid : Prop := fnConflictsUptoRow.holds Try.pinned (OpenSpec.upto fnConflictsSpec)

/-- 'laws.FnExactThinSoundings', WHERE WHAT IT READS IS OF BULK AT MOST 1048576: true; the input reads as it did. -/
def fnExactThinSoundingsUptoRow : OpenClaim := { program := "ytbbnnahjghlnoaa", sum := "017ee4ba5aaa1b16343121461d6341edffa059b6536da47797f0b6b260f039a3", func := "loop.example/g00915/laws.FnExactThinSoundings", spec := "fnExactThinSoundings", unfollowed := true, recurses := true, plainKeys := false, apart := false, narrowed := true }
def FnExactThinSoundingsUptoSaid : Prop := fnExactThinSoundingsUptoRow.holds Try.pinned (OpenSpec.upto fnExactThinSoundingsSpec)

end Rows
end Go.Proofs.Ytbbnnahjghlnoaa
