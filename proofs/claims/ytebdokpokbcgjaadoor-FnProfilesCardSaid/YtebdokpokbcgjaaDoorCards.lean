/-
  DERIVED. GIVEN WITH THE SEED: THE CARDS: each row of YtebdokpokbcgjaaDoorRows.lean that lists a variable, with what it lists TIED to the program's text (the seventh form; the later family's looks); each row that meets fmt, with fmt's text TOLD by the authors' own Lean function (tested against real Go, not proved from fmt's source: count such statements apart). THE CARD IS WHAT COUNTS. Prove the row's statement (the work); the ties are given (YtebdokpokbcgjaaDoorTie.lean); close each card by the builder's one call (the guide's Derived/Test/ToyasCard.lean, 'card_holds'). Laid BY PROGRAM, IN A SANDBOX (cutbox-door.mjs). By AI agents, Wed Nov 11 2026. No macro, syntax, notation, axiom, sorry.
-/
import Derived.Test.YtebdokpokbcgjaaDoorRows
import GoSem.ClaimSeven
namespace Go.Proofs.YtebdokpokbcgjaaDoor
namespace Rows

/-- THE TIED CARD OF 'laws.FnExactGaugeText'. -/
def fnExactGaugeTextCard : Claim7 := { stood := { row := fnExactGaugeTextRow, standIns := [], harness := (true, "f4e5dfee397e73dabd791c0812772406c16a5b47db8ca9fa484fb89d0ccc4c0f"), looks := true }, kinds := [], alts := [], laidByText := true, laidKinds := [.data, .data, .data], laidTests := true, laidLooks := .later }
def FnExactGaugeTextCardSaid : Prop := Claim7.holds Tryd.pinned (.plain (OpenSpec.ofChange fnExactGaugeTextSpec)) fnExactGaugeTextCard

/-- THE TIED CARD OF 'laws.FnExactSoundingsText'. -/
def fnExactSoundingsTextCard : Claim7 := { stood := { row := fnExactSoundingsTextRow, standIns := [], harness := (true, "f4e5dfee397e73dabd791c0812772406c16a5b47db8ca9fa484fb89d0ccc4c0f"), looks := true }, kinds := [], alts := [], laidByText := true, laidKinds := [.data, .data, .data], laidTests := true, laidLooks := .later }
def FnExactSoundingsTextCardSaid : Prop := Claim7.holds Tryd.pinned (.plain (OpenSpec.ofChange fnExactSoundingsTextSpec)) fnExactSoundingsTextCard

/-- THE TIED CARD OF 'laws.FnExactReadGauge'. -/
def fnExactReadGaugeCard : Claim7 := { stood := { row := fnExactReadGaugeRow, standIns := [], harness := (true, "f4e5dfee397e73dabd791c0812772406c16a5b47db8ca9fa484fb89d0ccc4c0f"), looks := true }, kinds := [], alts := [], laidByText := true, laidKinds := [.data, .data, .data, .data, .sentinel, .sentinel, .pinned], laidTests := true, laidLooks := .later }
def FnExactReadGaugeCardSaid : Prop := Claim7.holds Tryd.pinned (.plain (OpenSpec.ofChange fnExactReadGaugeSpec)) fnExactReadGaugeCard

/-- THE TIED CARD OF 'laws.FnExactReadSoundings'. -/
def fnExactReadSoundingsCard : Claim7 := { stood := { row := fnExactReadSoundingsRow, standIns := [], harness := (true, "f4e5dfee397e73dabd791c0812772406c16a5b47db8ca9fa484fb89d0ccc4c0f"), looks := true }, kinds := [], alts := [], laidByText := true, laidKinds := [.data, .data, .data, .data, .sentinel, .sentinel, .pinned], laidTests := true, laidLooks := .later }
def FnExactReadSoundingsCardSaid : Prop := Claim7.holds Tryd.pinned (.plain (OpenSpec.ofChange fnExactReadSoundingsSpec)) fnExactReadSoundingsCard

/-- THE TIED CARD OF 'laws.FnGauges'. -/
def fnGaugesCard : Claim7 := { stood := { row := fnGaugesRow, standIns := [], harness := (true, "f4e5dfee397e73dabd791c0812772406c16a5b47db8ca9fa484fb89d0ccc4c0f"), looks := true }, kinds := [], alts := [], laidByText := true, laidKinds := [.data, .data, .data, .data, .sentinel, .sentinel, .pinned], laidTests := true, laidLooks := .later }
def FnGaugesCardSaid : Prop := Claim7.holds Tryd.pinned (.plain (OpenSpec.ofChange fnGaugesSpec)) fnGaugesCard

/-- THE TIED CARD OF 'laws.FnProfiles'. -/
def fnProfilesCard : Claim7 := { stood := { row := fnProfilesRow, standIns := [], harness := (true, "f4e5dfee397e73dabd791c0812772406c16a5b47db8ca9fa484fb89d0ccc4c0f"), looks := true }, kinds := [], alts := [], laidByText := true, laidKinds := [.data, .data, .data, .data, .sentinel, .sentinel, .pinned], laidTests := true, laidLooks := .later }
def FnProfilesCardSaid : Prop := Claim7.holds Tryd.pinned (.plain (OpenSpec.ofChange fnProfilesSpec)) fnProfilesCard

/-- THE SECOND FORM's CARD OF 'laws.FnExactGaugeText'. -/
def fnExactGaugeTextUptoCard : Claim7 := { stood := { row := fnExactGaugeTextUptoRow, standIns := [], harness := (true, "f4e5dfee397e73dabd791c0812772406c16a5b47db8ca9fa484fb89d0ccc4c0f"), looks := true }, kinds := [], alts := [], laidByText := true, laidKinds := [.data, .data, .data], laidTests := true, laidLooks := .later }
def FnExactGaugeTextUptoCardSaid : Prop := Claim7.holds Tryd.pinned (.plain (OpenSpec.upto fnExactGaugeTextSpec)) fnExactGaugeTextUptoCard

/-- THE SECOND FORM's CARD OF 'laws.FnExactSoundingsText'. -/
def fnExactSoundingsTextUptoCard : Claim7 := { stood := { row := fnExactSoundingsTextUptoRow, standIns := [], harness := (true, "f4e5dfee397e73dabd791c0812772406c16a5b47db8ca9fa484fb89d0ccc4c0f"), looks := true }, kinds := [], alts := [], laidByText := true, laidKinds := [.data, .data, .data], laidTests := true, laidLooks := .later }
def FnExactSoundingsTextUptoCardSaid : Prop := Claim7.holds Tryd.pinned (.plain (OpenSpec.upto fnExactSoundingsTextSpec)) fnExactSoundingsTextUptoCard

/-- THE SECOND FORM's CARD OF 'laws.FnExactReadGauge'. -/
def fnExactReadGaugeUptoCard : Claim7 := { stood := { row := fnExactReadGaugeUptoRow, standIns := [], harness := (true, "f4e5dfee397e73dabd791c0812772406c16a5b47db8ca9fa484fb89d0ccc4c0f"), looks := true }, kinds := [], alts := [], laidByText := true, laidKinds := [.data, .data, .data, .data, .sentinel, .sentinel, .pinned], laidTests := true, laidLooks := .later }
def FnExactReadGaugeUptoCardSaid : Prop := Claim7.holds Tryd.pinned (.plain (OpenSpec.upto fnExactReadGaugeSpec)) fnExactReadGaugeUptoCard

/-- THE SECOND FORM's CARD OF 'laws.FnExactReadSoundings'. -/
def fnExactReadSoundingsUptoCard : Claim7 := { stood := { row := fnExactReadSoundingsUptoRow, standIns := [], harness := (true, "f4e5dfee397e73dabd791c0812772406c16a5b47db8ca9fa484fb89d0ccc4c0f"), looks := true }, kinds := [], alts := [], laidByText := true, laidKinds := [.data, .data, .data, .data, .sentinel, .sentinel, .pinned], laidTests := true, laidLooks := .later }
def FnExactReadSoundingsUptoCardSaid : Prop := Claim7.holds Tryd.pinned (.plain (OpenSpec.upto fnExactReadSoundingsSpec)) fnExactReadSoundingsUptoCard

/-- THE SECOND FORM's CARD OF 'laws.FnGauges'. -/
def fnGaugesUptoCard : Claim7 := { stood := { row := fnGaugesUptoRow, standIns := [], harness := (true, "f4e5dfee397e73dabd791c0812772406c16a5b47db8ca9fa484fb89d0ccc4c0f"), looks := true }, kinds := [], alts := [], laidByText := true, laidKinds := [.data, .data, .data, .data, .sentinel, .sentinel, .pinned], laidTests := true, laidLooks := .later }
def FnGaugesUptoCardSaid : Prop := Claim7.holds Tryd.pinned (.plain (OpenSpec.upto fnGaugesSpec)) fnGaugesUptoCard

/-- THE SECOND FORM's CARD OF 'laws.FnProfiles'. -/
def fnProfilesUptoCard : Claim7 := { stood := { row := fnProfilesUptoRow, standIns := [], harness := (true, "f4e5dfee397e73dabd791c0812772406c16a5b47db8ca9fa484fb89d0ccc4c0f"), looks := true }, kinds := [], alts := [], laidByText := true, laidKinds := [.data, .data, .data, .data, .sentinel, .sentinel, .pinned], laidTests := true, laidLooks := .later }
def FnProfilesUptoCardSaid : Prop := Claim7.holds Tryd.pinned (.plain (OpenSpec.upto fnProfilesSpec)) fnProfilesUptoCard
end Rows
end Go.Proofs.YtebdokpokbcgjaaDoor
