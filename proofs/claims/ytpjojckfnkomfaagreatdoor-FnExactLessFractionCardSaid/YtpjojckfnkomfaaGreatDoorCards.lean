/-
  DERIVED. GIVEN WITH THE SEED: THE CARDS: each row of YtpjojckfnkomfaaGreatDoorRows.lean that lists a variable, with what it lists TIED to the program's text (the seventh form; the later family's looks); each row that meets fmt, with fmt's text TOLD by the authors' own Lean function (tested against real Go, not proved from fmt's source: count such statements apart). THE CARD IS WHAT COUNTS. Prove the row's statement (the work); the ties are given (YtpjojckfnkomfaaGreatDoorTie.lean); close each card by the builder's one call (the guide's Derived/Test/ToyasCard.lean, 'card_holds'). Laid BY PROGRAM, IN A SANDBOX (cutbox-door.mjs). By AI agents, Wed Nov 11 2026. No macro, syntax, notation, axiom, sorry.
-/
import Derived.Test.YtpjojckfnkomfaaGreatDoorRows
import GoSem.ClaimSeven
namespace Go.Proofs.YtpjojckfnkomfaaGreatDoor
namespace Rows

/-- THE TIED CARD OF 'laws.FnExactAreWeights'. -/
def fnExactAreWeightsCard : Claim7 := { stood := { row := fnExactAreWeightsRow, standIns := [], harness := (true, "333cd4271e5e17bf6756cbb0a73dd7c1e9a315aae763f6199f46a7b950033221"), looks := true }, kinds := [], alts := [], laidByText := true, laidKinds := [.data, .data, .data, .sentinel, .sentinel], laidTests := true, laidLooks := .later }
def FnExactAreWeightsCardSaid : Prop := Claim7.holds Tryz.pinned (.plain (OpenSpec.ofChange fnExactAreWeightsSpec)) fnExactAreWeightsCard

/-- THE TIED CARD OF 'laws.FnExactFloorOf'. -/
def fnExactFloorOfCard : Claim7 := { stood := { row := fnExactFloorOfRow, standIns := [], harness := (true, "333cd4271e5e17bf6756cbb0a73dd7c1e9a315aae763f6199f46a7b950033221"), looks := true }, kinds := [], alts := [], laidByText := true, laidKinds := [.data, .data, .data, .sentinel, .sentinel], laidTests := true, laidLooks := .later }
def FnExactFloorOfCardSaid : Prop := Claim7.holds Tryz.pinned (.plain (OpenSpec.ofChange fnExactFloorOfSpec)) fnExactFloorOfCard

/-- THE TIED CARD OF 'laws.FnExactTimesFractions'. -/
def fnExactTimesFractionsCard : Claim7 := { stood := { row := fnExactTimesFractionsRow, standIns := [], harness := (true, "333cd4271e5e17bf6756cbb0a73dd7c1e9a315aae763f6199f46a7b950033221"), looks := true }, kinds := [], alts := [], laidByText := true, laidKinds := [.data, .data, .data, .sentinel, .sentinel], laidTests := true, laidLooks := .later }
def FnExactTimesFractionsCardSaid : Prop := Claim7.holds Tryz.pinned (.plain (OpenSpec.ofChange fnExactTimesFractionsSpec)) fnExactTimesFractionsCard

/-- THE TIED CARD OF 'laws.FnExactOverFraction'. -/
def fnExactOverFractionCard : Claim7 := { stood := { row := fnExactOverFractionRow, standIns := [], harness := (true, "333cd4271e5e17bf6756cbb0a73dd7c1e9a315aae763f6199f46a7b950033221"), looks := true }, kinds := [], alts := [], laidByText := true, laidKinds := [.data, .data, .data, .sentinel, .sentinel], laidTests := true, laidLooks := .later }
def FnExactOverFractionCardSaid : Prop := Claim7.holds Tryz.pinned (.plain (OpenSpec.ofChange fnExactOverFractionSpec)) fnExactOverFractionCard

/-- THE TIED CARD OF 'laws.FnExactPowerOf'. -/
def fnExactPowerOfCard : Claim7 := { stood := { row := fnExactPowerOfRow, standIns := [], harness := (true, "333cd4271e5e17bf6756cbb0a73dd7c1e9a315aae763f6199f46a7b950033221"), looks := true }, kinds := [], alts := [], laidByText := true, laidKinds := [.data, .data, .data, .sentinel, .sentinel], laidTests := true, laidLooks := .later }
def FnExactPowerOfCardSaid : Prop := Claim7.holds Tryz.pinned (.plain (OpenSpec.ofChange fnExactPowerOfSpec)) fnExactPowerOfCard

/-- THE TIED CARD OF 'laws.FnExactAddFractions'. -/
def fnExactAddFractionsCard : Claim7 := { stood := { row := fnExactAddFractionsRow, standIns := [], harness := (true, "333cd4271e5e17bf6756cbb0a73dd7c1e9a315aae763f6199f46a7b950033221"), looks := true }, kinds := [], alts := [], laidByText := true, laidKinds := [.data, .data, .data, .sentinel, .sentinel], laidTests := true, laidLooks := .later }
def FnExactAddFractionsCardSaid : Prop := Claim7.holds Tryz.pinned (.plain (OpenSpec.ofChange fnExactAddFractionsSpec)) fnExactAddFractionsCard

/-- THE TIED CARD OF 'laws.FnExactLessFraction'. -/
def fnExactLessFractionCard : Claim7 := { stood := { row := fnExactLessFractionRow, standIns := [], harness := (true, "333cd4271e5e17bf6756cbb0a73dd7c1e9a315aae763f6199f46a7b950033221"), looks := true }, kinds := [], alts := [], laidByText := true, laidKinds := [.data, .data, .data, .sentinel, .sentinel], laidTests := true, laidLooks := .later }
def FnExactLessFractionCardSaid : Prop := Claim7.holds Tryz.pinned (.plain (OpenSpec.ofChange fnExactLessFractionSpec)) fnExactLessFractionCard

/-- THE TIED CARD OF 'laws.FnExactPlacesOf'. -/
def fnExactPlacesOfCard : Claim7 := { stood := { row := fnExactPlacesOfRow, standIns := [], harness := (true, "333cd4271e5e17bf6756cbb0a73dd7c1e9a315aae763f6199f46a7b950033221"), looks := true }, kinds := [], alts := [], laidByText := true, laidKinds := [.data, .data, .data, .sentinel, .sentinel], laidTests := true, laidLooks := .later }
def FnExactPlacesOfCardSaid : Prop := Claim7.holds Tryz.pinned (.plain (OpenSpec.ofChange fnExactPlacesOfSpec)) fnExactPlacesOfCard

/-- THE TIED CARD OF 'laws.FnExactSumOf'. -/
def fnExactSumOfCard : Claim7 := { stood := { row := fnExactSumOfRow, standIns := [], harness := (true, "333cd4271e5e17bf6756cbb0a73dd7c1e9a315aae763f6199f46a7b950033221"), looks := true }, kinds := [], alts := [], laidByText := true, laidKinds := [.data, .data, .data, .sentinel, .sentinel], laidTests := true, laidLooks := .later }
def FnExactSumOfCardSaid : Prop := Claim7.holds Tryz.pinned (.plain (OpenSpec.ofChange fnExactSumOfSpec)) fnExactSumOfCard

/-- THE TIED CARD OF 'laws.FnExactDistanceOf'. -/
def fnExactDistanceOfCard : Claim7 := { stood := { row := fnExactDistanceOfRow, standIns := [], harness := (true, "333cd4271e5e17bf6756cbb0a73dd7c1e9a315aae763f6199f46a7b950033221"), looks := true }, kinds := [], alts := [], laidByText := true, laidKinds := [.data, .data, .data, .sentinel, .sentinel], laidTests := true, laidLooks := .later }
def FnExactDistanceOfCardSaid : Prop := Claim7.holds Tryz.pinned (.plain (OpenSpec.ofChange fnExactDistanceOfSpec)) fnExactDistanceOfCard

/-- THE SECOND FORM's CARD OF 'laws.FnExactAreWeights'. -/
def fnExactAreWeightsUptoCard : Claim7 := { stood := { row := fnExactAreWeightsUptoRow, standIns := [], harness := (true, "333cd4271e5e17bf6756cbb0a73dd7c1e9a315aae763f6199f46a7b950033221"), looks := true }, kinds := [], alts := [], laidByText := true, laidKinds := [.data, .data, .data, .sentinel, .sentinel], laidTests := true, laidLooks := .later }
def FnExactAreWeightsUptoCardSaid : Prop := Claim7.holds Tryz.pinned (.plain (OpenSpec.upto fnExactAreWeightsSpec)) fnExactAreWeightsUptoCard

/-- THE SECOND FORM's CARD OF 'laws.FnExactFloorOf'. -/
def fnExactFloorOfUptoCard : Claim7 := { stood := { row := fnExactFloorOfUptoRow, standIns := [], harness := (true, "333cd4271e5e17bf6756cbb0a73dd7c1e9a315aae763f6199f46a7b950033221"), looks := true }, kinds := [], alts := [], laidByText := true, laidKinds := [.data, .data, .data, .sentinel, .sentinel], laidTests := true, laidLooks := .later }
def FnExactFloorOfUptoCardSaid : Prop := Claim7.holds Tryz.pinned (.plain (OpenSpec.upto fnExactFloorOfSpec)) fnExactFloorOfUptoCard

/-- THE SECOND FORM's CARD OF 'laws.FnExactTimesFractions'. -/
def fnExactTimesFractionsUptoCard : Claim7 := { stood := { row := fnExactTimesFractionsUptoRow, standIns := [], harness := (true, "333cd4271e5e17bf6756cbb0a73dd7c1e9a315aae763f6199f46a7b950033221"), looks := true }, kinds := [], alts := [], laidByText := true, laidKinds := [.data, .data, .data, .sentinel, .sentinel], laidTests := true, laidLooks := .later }
def FnExactTimesFractionsUptoCardSaid : Prop := Claim7.holds Tryz.pinned (.plain (OpenSpec.upto fnExactTimesFractionsSpec)) fnExactTimesFractionsUptoCard

/-- THE SECOND FORM's CARD OF 'laws.FnExactOverFraction'. -/
def fnExactOverFractionUptoCard : Claim7 := { stood := { row := fnExactOverFractionUptoRow, standIns := [], harness := (true, "333cd4271e5e17bf6756cbb0a73dd7c1e9a315aae763f6199f46a7b950033221"), looks := true }, kinds := [], alts := [], laidByText := true, laidKinds := [.data, .data, .data, .sentinel, .sentinel], laidTests := true, laidLooks := .later }
def FnExactOverFractionUptoCardSaid : Prop := Claim7.holds Tryz.pinned (.plain (OpenSpec.upto fnExactOverFractionSpec)) fnExactOverFractionUptoCard

/-- THE SECOND FORM's CARD OF 'laws.FnExactPowerOf'. -/
def fnExactPowerOfUptoCard : Claim7 := { stood := { row := fnExactPowerOfUptoRow, standIns := [], harness := (true, "333cd4271e5e17bf6756cbb0a73dd7c1e9a315aae763f6199f46a7b950033221"), looks := true }, kinds := [], alts := [], laidByText := true, laidKinds := [.data, .data, .data, .sentinel, .sentinel], laidTests := true, laidLooks := .later }
def FnExactPowerOfUptoCardSaid : Prop := Claim7.holds Tryz.pinned (.plain (OpenSpec.upto fnExactPowerOfSpec)) fnExactPowerOfUptoCard

/-- THE SECOND FORM's CARD OF 'laws.FnExactAddFractions'. -/
def fnExactAddFractionsUptoCard : Claim7 := { stood := { row := fnExactAddFractionsUptoRow, standIns := [], harness := (true, "333cd4271e5e17bf6756cbb0a73dd7c1e9a315aae763f6199f46a7b950033221"), looks := true }, kinds := [], alts := [], laidByText := true, laidKinds := [.data, .data, .data, .sentinel, .sentinel], laidTests := true, laidLooks := .later }
def FnExactAddFractionsUptoCardSaid : Prop := Claim7.holds Tryz.pinned (.plain (OpenSpec.upto fnExactAddFractionsSpec)) fnExactAddFractionsUptoCard

/-- THE SECOND FORM's CARD OF 'laws.FnExactLessFraction'. -/
def fnExactLessFractionUptoCard : Claim7 := { stood := { row := fnExactLessFractionUptoRow, standIns := [], harness := (true, "333cd4271e5e17bf6756cbb0a73dd7c1e9a315aae763f6199f46a7b950033221"), looks := true }, kinds := [], alts := [], laidByText := true, laidKinds := [.data, .data, .data, .sentinel, .sentinel], laidTests := true, laidLooks := .later }
def FnExactLessFractionUptoCardSaid : Prop := Claim7.holds Tryz.pinned (.plain (OpenSpec.upto fnExactLessFractionSpec)) fnExactLessFractionUptoCard

/-- THE SECOND FORM's CARD OF 'laws.FnExactPlacesOf'. -/
def fnExactPlacesOfUptoCard : Claim7 := { stood := { row := fnExactPlacesOfUptoRow, standIns := [], harness := (true, "333cd4271e5e17bf6756cbb0a73dd7c1e9a315aae763f6199f46a7b950033221"), looks := true }, kinds := [], alts := [], laidByText := true, laidKinds := [.data, .data, .data, .sentinel, .sentinel], laidTests := true, laidLooks := .later }
def FnExactPlacesOfUptoCardSaid : Prop := Claim7.holds Tryz.pinned (.plain (OpenSpec.upto fnExactPlacesOfSpec)) fnExactPlacesOfUptoCard

/-- THE SECOND FORM's CARD OF 'laws.FnExactSumOf'. -/
def fnExactSumOfUptoCard : Claim7 := { stood := { row := fnExactSumOfUptoRow, standIns := [], harness := (true, "333cd4271e5e17bf6756cbb0a73dd7c1e9a315aae763f6199f46a7b950033221"), looks := true }, kinds := [], alts := [], laidByText := true, laidKinds := [.data, .data, .data, .sentinel, .sentinel], laidTests := true, laidLooks := .later }
def FnExactSumOfUptoCardSaid : Prop := Claim7.holds Tryz.pinned (.plain (OpenSpec.upto fnExactSumOfSpec)) fnExactSumOfUptoCard

/-- THE SECOND FORM's CARD OF 'laws.FnExactDistanceOf'. -/
def fnExactDistanceOfUptoCard : Claim7 := { stood := { row := fnExactDistanceOfUptoRow, standIns := [], harness := (true, "333cd4271e5e17bf6756cbb0a73dd7c1e9a315aae763f6199f46a7b950033221"), looks := true }, kinds := [], alts := [], laidByText := true, laidKinds := [.data, .data, .data, .sentinel, .sentinel], laidTests := true, laidLooks := .later }
def FnExactDistanceOfUptoCardSaid : Prop := Claim7.holds Tryz.pinned (.plain (OpenSpec.upto fnExactDistanceOfSpec)) fnExactDistanceOfUptoCard
end Rows
end Go.Proofs.YtpjojckfnkomfaaGreatDoor
