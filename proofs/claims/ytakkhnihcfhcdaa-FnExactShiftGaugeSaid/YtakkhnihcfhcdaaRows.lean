/-
  No cell of these rows narrows 'for every input' (looked for: loops, veiled, ifaces, maps, wideKeys, modest, calm, conditions, laid).
  DERIVED. THE GIVEN ROWS OF THIS SEAT. 6 by the template 'for every input the law returns true; each argument reads behind the call as it read before'; 0 by the template 'total and deterministic' (their statements: YtakkhnihcfhcdaaTotals.lean).
  GIVEN WITH THE SEED: the statements are not yours to turn. If you find one false, say at which input.
  Laid BY PROGRAM, IN A SANDBOX (cutbox-rows.mjs): the forced cells as the released guide's own fill.sh prints them over the translation a345e8f478b2c496… (all of the seat's roots in one cut). By AI agents, Wed Nov 11 2026. No macro, syntax, notation, axiom, sorry.
-/
import Derived.Test.YtakkhnihcfhcdaaChecked
import GoSem.Claim
import GoSem.ClaimJoined
import GoSem.ClaimMapViews
import Derived.JoinedTies
import Derived.KernelRfl
namespace Go.Proofs.Ytakkhnihcfhcdaa
/- THE CELL 'sum', in the pinned program and in every row, IS THE sha256 OF THE DUMP (.gsa) THAT YtakkhnihcfhcdaaProg.lean LOADS. Nothing in Lean hashes anything: it is a label: what it is worth is what the hold of that sum in a sandbox is worth. -/
noncomputable def Try.pinned : Pinned := { name := "ytakkhnihcfhcdaa", sum := "a345e8f478b2c496df66542980a6ede1cfca3c17ab8ac674bc48b53472531653", checked := Try.checked }
namespace Rows
def none {H : Type} : Left H := { results := [], args := [] }

/-- 'laws.FnExactDepthBounds': WHATEVER THE INPUT: true; the input reads as it did. -/
def fnExactDepthBoundsSpec : ChangeSpec := { name := "fnExactDepthBounds", fn := fun _ => fun
  | [d] => { results := [.lit (.bool true)], args := [d] }
  | _ => none }
def fnExactDepthBoundsRow : OpenClaim := { program := "ytakkhnihcfhcdaa", sum := "a345e8f478b2c496df66542980a6ede1cfca3c17ab8ac674bc48b53472531653", func := "loop.example/g00915/laws.FnExactDepthBounds", spec := "fnExactDepthBounds", apart := false }
def FnExactDepthBoundsSaid : Prop := fnExactDepthBoundsRow.holds Try.pinned (OpenSpec.ofChange fnExactDepthBoundsSpec)

/-- ITS FALSE NEIGHBOUR: 'it returns false'. Refute it at one input. -/
def fnExactDepthBoundsWrong : ChangeSpec := { name := "fnExactDepthBounds", fn := fun _ => fun
  | [d] => { results := [.lit (.bool false)], args := [d] }
  | _ => none }
def FnExactDepthBoundsWrongFalsely : Prop := fnExactDepthBoundsRow.holds Try.pinned (OpenSpec.ofChange fnExactDepthBoundsWrong)

/-- 'laws.FnExactAreSoundings': WHATEVER THE INPUT: true; the input reads as it did. -/
def fnExactAreSoundingsSpec : ChangeSpec := { name := "fnExactAreSoundings", fn := fun _ => fun
  | [d] => { results := [.lit (.bool true)], args := [d] }
  | _ => none }
def fnExactAreSoundingsRow : OpenClaim := { program := "ytakkhnihcfhcdaa", sum := "a345e8f478b2c496df66542980a6ede1cfca3c17ab8ac674bc48b53472531653", func := "loop.example/g00915/laws.FnExactAreSoundings", spec := "fnExactAreSoundings", unfollowed := true, recurses := true, apart := false }
def FnExactAreSoundingsSaid : Prop := fnExactAreSoundingsRow.holds Try.pinned (OpenSpec.ofChange fnExactAreSoundingsSpec)

/-- ITS FALSE NEIGHBOUR: 'it returns false'. Refute it at one input. -/
def fnExactAreSoundingsWrong : ChangeSpec := { name := "fnExactAreSoundings", fn := fun _ => fun
  | [d] => { results := [.lit (.bool false)], args := [d] }
  | _ => none }
def FnExactAreSoundingsWrongFalsely : Prop := fnExactAreSoundingsRow.holds Try.pinned (OpenSpec.ofChange fnExactAreSoundingsWrong)

/-- 'laws.FnExactShoalestOf': WHATEVER THE INPUT: true; the input reads as it did. -/
def fnExactShoalestOfSpec : ChangeSpec := { name := "fnExactShoalestOf", fn := fun _ => fun
  | [d] => { results := [.lit (.bool true)], args := [d] }
  | _ => none }
def fnExactShoalestOfRow : OpenClaim := { program := "ytakkhnihcfhcdaa", sum := "a345e8f478b2c496df66542980a6ede1cfca3c17ab8ac674bc48b53472531653", func := "loop.example/g00915/laws.FnExactShoalestOf", spec := "fnExactShoalestOf", unfollowed := true, recurses := true, apart := false }
def FnExactShoalestOfSaid : Prop := fnExactShoalestOfRow.holds Try.pinned (OpenSpec.ofChange fnExactShoalestOfSpec)

/-- ITS FALSE NEIGHBOUR: 'it returns false'. Refute it at one input. -/
def fnExactShoalestOfWrong : ChangeSpec := { name := "fnExactShoalestOf", fn := fun _ => fun
  | [d] => { results := [.lit (.bool false)], args := [d] }
  | _ => none }
def FnExactShoalestOfWrongFalsely : Prop := fnExactShoalestOfRow.holds Try.pinned (OpenSpec.ofChange fnExactShoalestOfWrong)

/-- 'laws.FnExactFastestTo': WHATEVER THE INPUT: true; the input reads as it did. -/
def fnExactFastestToSpec : ChangeSpec := { name := "fnExactFastestTo", fn := fun _ => fun
  | [d1, d2] => { results := [.lit (.bool true)], args := [d1, d2] }
  | _ => none }
def fnExactFastestToRow : OpenClaim := { program := "ytakkhnihcfhcdaa", sum := "a345e8f478b2c496df66542980a6ede1cfca3c17ab8ac674bc48b53472531653", func := "loop.example/g00915/laws.FnExactFastestTo", spec := "fnExactFastestTo", unfollowed := true, recurses := true, apart := false }
def FnExactFastestToSaid : Prop := fnExactFastestToRow.holds Try.pinned (OpenSpec.ofChange fnExactFastestToSpec)

/-- ITS FALSE NEIGHBOUR: 'it returns false'. Refute it at one input. -/
def fnExactFastestToWrong : ChangeSpec := { name := "fnExactFastestTo", fn := fun _ => fun
  | [d1, d2] => { results := [.lit (.bool false)], args := [d1, d2] }
  | _ => none }
def FnExactFastestToWrongFalsely : Prop := fnExactFastestToRow.holds Try.pinned (OpenSpec.ofChange fnExactFastestToWrong)

/-- 'laws.FnExactShiftGauge': WHATEVER THE INPUT: true; the input reads as it did. -/
def fnExactShiftGaugeSpec : ChangeSpec := { name := "fnExactShiftGauge", fn := fun _ => fun
  | [d1, d2, d3] => { results := [.lit (.bool true)], args := [d1, d2, d3] }
  | _ => none }
def fnExactShiftGaugeRow : OpenClaim := { program := "ytakkhnihcfhcdaa", sum := "a345e8f478b2c496df66542980a6ede1cfca3c17ab8ac674bc48b53472531653", func := "loop.example/g00915/laws.FnExactShiftGauge", spec := "fnExactShiftGauge", apart := false }
def FnExactShiftGaugeSaid : Prop := fnExactShiftGaugeRow.holds Try.pinned (OpenSpec.ofChange fnExactShiftGaugeSpec)

/-- ITS FALSE NEIGHBOUR: 'it returns false'. Refute it at one input. -/
def fnExactShiftGaugeWrong : ChangeSpec := { name := "fnExactShiftGauge", fn := fun _ => fun
  | [d1, d2, d3] => { results := [.lit (.bool false)], args := [d1, d2, d3] }
  | _ => none }
def FnExactShiftGaugeWrongFalsely : Prop := fnExactShiftGaugeRow.holds Try.pinned (OpenSpec.ofChange fnExactShiftGaugeWrong)

/-- 'laws.FnExactSoundingsNear': WHATEVER THE INPUT: true; the input reads as it did. -/
def fnExactSoundingsNearSpec : ChangeSpec := { name := "fnExactSoundingsNear", fn := fun _ => fun
  | [d1, d2, d3, d4] => { results := [.lit (.bool true)], args := [d1, d2, d3, d4] }
  | _ => none }
def fnExactSoundingsNearRow : OpenClaim := { program := "ytakkhnihcfhcdaa", sum := "a345e8f478b2c496df66542980a6ede1cfca3c17ab8ac674bc48b53472531653", func := "loop.example/g00915/laws.FnExactSoundingsNear", spec := "fnExactSoundingsNear", unfollowed := true, recurses := true, apart := false }
def FnExactSoundingsNearSaid : Prop := fnExactSoundingsNearRow.holds Try.pinned (OpenSpec.ofChange fnExactSoundingsNearSpec)

/-- ITS FALSE NEIGHBOUR: 'it returns false'. Refute it at one input. -/
def fnExactSoundingsNearWrong : ChangeSpec := { name := "fnExactSoundingsNear", fn := fun _ => fun
  | [d1, d2, d3, d4] => { results := [.lit (.bool false)], args := [d1, d2, d3, d4] }
  | _ => none }
def FnExactSoundingsNearWrongFalsely : Prop := fnExactSoundingsNearRow.holds Try.pinned (OpenSpec.ofChange fnExactSoundingsNearWrong)

/- THE SECOND FORM. 'bulk': how many values and letters a reading holds, each counted each time it is reached (what is shared counts as often as it is met; a slice's spare places count too). A statement '..UptoSaid' is the law's where the arguments, and the package variables that the reading takes, are together of bulk at most 1048576: NARROWER than '..Said'. Prove '..Said' where nothing that the law and all that it calls make is longer than what came in: it says more and counts as full. Else prove '..UptoSaid'. A law counts once. -/
mutual
def uptoBulk {H : Type} : DataW H → Nat
  | .lit (.string bytes) => bytes.length + 1
  | .lit _ => 1
  | .nil => 1
  | .ptr d => uptoBulk d + 1
  | .slice elems spare => uptoBulkAll elems + uptoBulkAll spare + 1
  | .agg parts => uptoBulkAll parts + 1
  | .iface _ d => uptoBulk d + 1
  | .map entries => uptoBulkEntries entries + 1
  | .held _ => 1
def uptoBulkAll {H : Type} : List (DataW H) → Nat
  | [] => 0
  | d :: r => uptoBulk d + uptoBulkAll r
def uptoBulkEntries {H : Type} : List (Lit × DataW H) → Nat
  | [] => 0
  | x :: r => uptoBulkEntry x + uptoBulkEntries r
def uptoBulkEntry {H : Type} : Lit × DataW H → Nat
  | (.string bytes, d) => bytes.length + uptoBulk d + 1
  | (_, d) => uptoBulk d + 1
 end
def uptoSmall : (H : Type) → List (DataW H) → Bool := fun _ ds => decide (uptoBulkAll ds ≤ 1048576)
def OpenSpec.upto (s : _root_.Go.ChangeSpec) : _root_.Go.OpenSpec := { _root_.Go.OpenSpec.ofChange s with cond := some uptoSmall }

/-- 'laws.FnExactDepthBounds', WHERE WHAT IT READS IS OF BULK AT MOST 1048576: true; the input reads as it did. -/
def fnExactDepthBoundsUptoRow : OpenClaim := { program := "ytakkhnihcfhcdaa", sum := "a345e8f478b2c496df66542980a6ede1cfca3c17ab8ac674bc48b53472531653", func := "loop.example/g00915/laws.FnExactDepthBounds", spec := "fnExactDepthBounds", apart := false, narrowed := true }
def FnExactDepthBoundsUptoSaid : Prop := fnExactDepthBoundsUptoRow.holds Try.pinned (OpenSpec.upto fnExactDepthBoundsSpec)

/-- 'laws.FnExactAreSoundings', WHERE WHAT IT READS IS OF BULK AT MOST 1048576: true; the input reads as it did. -/
def fnExactAreSoundingsUptoRow : OpenClaim := { program := "ytakkhnihcfhcdaa", sum := "a345e8f478b2c496df66542980a6ede1cfca3c17ab8ac674bc48b53472531653", func := "loop.example/g00915/laws.FnExactAreSoundings", spec := "fnExactAreSoundings", unfollowed := true, recurses := true, apart := false, narrowed := true }
def FnExactAreSoundingsUptoSaid : Prop := fnExactAreSoundingsUptoRow.holds Try.pinned (OpenSpec.upto fnExactAreSoundingsSpec)

/-- 'laws.FnExactShoalestOf', WHERE WHAT IT READS IS OF BULK AT MOST 1048576: true; the input reads as it did. -/
def fnExactShoalestOfUptoRow : OpenClaim := { program := "ytakkhnihcfhcdaa", sum := "a345e8f478b2c496df66542980a6ede1cfca3c17ab8ac674bc48b53472531653", func := "loop.example/g00915/laws.FnExactShoalestOf", spec := "fnExactShoalestOf", unfollowed := true, recurses := true, apart := false, narrowed := true }
def FnExactShoalestOfUptoSaid : Prop := fnExactShoalestOfUptoRow.holds Try.pinned (OpenSpec.upto fnExactShoalestOfSpec)

/-- 'laws.FnExactFastestTo', WHERE WHAT IT READS IS OF BULK AT MOST 1048576: true; the input reads as it did. -/
def fnExactFastestToUptoRow : OpenClaim := { program := "ytakkhnihcfhcdaa", sum := "a345e8f478b2c496df66542980a6ede1cfca3c17ab8ac674bc48b53472531653", func := "loop.example/g00915/laws.FnExactFastestTo", spec := "fnExactFastestTo", unfollowed := true, recurses := true, apart := false, narrowed := true }
def FnExactFastestToUptoSaid : Prop := fnExactFastestToUptoRow.holds Try.pinned (OpenSpec.upto fnExactFastestToSpec)

/-- 'laws.FnExactShiftGauge', WHERE WHAT IT READS IS OF BULK AT MOST 1048576: true; the input reads as it did. -/
def fnExactShiftGaugeUptoRow : OpenClaim := { program := "ytakkhnihcfhcdaa", sum := "a345e8f478b2c496df66542980a6ede1cfca3c17ab8ac674bc48b53472531653", func := "loop.example/g00915/laws.FnExactShiftGauge", spec := "fnExactShiftGauge", apart := false, narrowed := true }
def FnExactShiftGaugeUptoSaid : Prop := fnExactShiftGaugeUptoRow.holds Try.pinned (OpenSpec.upto fnExactShiftGaugeSpec)

/-- 'laws.FnExactSoundingsNear', WHERE WHAT IT READS IS OF BULK AT MOST 1048576: true; the input reads as it did. -/
def fnExactSoundingsNearUptoRow : OpenClaim := { program := "ytakkhnihcfhcdaa", sum := "a345e8f478b2c496df66542980a6ede1cfca3c17ab8ac674bc48b53472531653", func := "loop.example/g00915/laws.FnExactSoundingsNear", spec := "fnExactSoundingsNear", unfollowed := true, recurses := true, apart := false, narrowed := true }
def FnExactSoundingsNearUptoSaid : Prop := fnExactSoundingsNearUptoRow.holds Try.pinned (OpenSpec.upto fnExactSoundingsNearSpec)

end Rows
end Go.Proofs.Ytakkhnihcfhcdaa
