/-
  DERIVED. GIVEN WITH THE SEED: THE CARDS: each row of YtdpljomfkoojnaaGreatDoorRows.lean that lists a variable, with what it lists TIED to the program's text (the seventh form; the later family's looks); each row that meets fmt, with fmt's text TOLD by the authors' own Lean function (tested against real Go, not proved from fmt's source: count such statements apart). THE CARD IS WHAT COUNTS. Prove the row's statement (the work); the ties are given (YtdpljomfkoojnaaGreatDoorTie.lean); close each card by the builder's one call (the guide's Derived/Test/ToyasCard.lean, 'card_holds'). Laid BY PROGRAM, IN A SANDBOX (cutbox-door.mjs). By AI agents, Wed Nov 11 2026. No macro, syntax, notation, axiom, sorry.
-/
import Derived.Test.YtdpljomfkoojnaaGreatDoorRows
import GoSem.ClaimSeven
namespace Go.Proofs.YtdpljomfkoojnaaGreatDoor
namespace Rows

/-- THE TIED CARD OF 'laws.FnExactClassesOf'. -/
def fnExactClassesOfCard : Claim7 := { stood := { row := fnExactClassesOfRow, standIns := [], harness := (true, "4e76080c7fe53ee1b9a62e2368db6c540a83790eabf8fb8b42a737690d148f39"), looks := true }, kinds := [], alts := [], laidByText := true, laidKinds := [.data, .data, .data, .sentinel, .sentinel], laidTests := true, laidLooks := .later }
def FnExactClassesOfCardSaid : Prop := Claim7.holds Tryz.pinned (.plain (OpenSpec.ofChange fnExactClassesOfSpec)) fnExactClassesOfCard

/-- THE TIED CARD OF 'laws.FnExactToWeights'. -/
def fnExactToWeightsCard : Claim7 := { stood := { row := fnExactToWeightsRow, standIns := [], harness := (true, "4e76080c7fe53ee1b9a62e2368db6c540a83790eabf8fb8b42a737690d148f39"), looks := true }, kinds := [], alts := [], laidByText := true, laidKinds := [.data, .data, .data, .sentinel, .sentinel], laidTests := true, laidLooks := .later }
def FnExactToWeightsCardSaid : Prop := Claim7.holds Tryz.pinned (.plain (OpenSpec.ofChange fnExactToWeightsSpec)) fnExactToWeightsCard

/-- THE TIED CARD OF 'laws.FnExactClosedClasses'. -/
def fnExactClosedClassesCard : Claim7 := { stood := { row := fnExactClosedClassesRow, standIns := [], harness := (true, "4e76080c7fe53ee1b9a62e2368db6c540a83790eabf8fb8b42a737690d148f39"), looks := true }, kinds := [], alts := [], laidByText := true, laidKinds := [.data, .data, .data, .sentinel, .sentinel], laidTests := true, laidLooks := .later }
def FnExactClosedClassesCardSaid : Prop := Claim7.holds Tryz.pinned (.plain (OpenSpec.ofChange fnExactClosedClassesSpec)) fnExactClosedClassesCard

/-- THE TIED CARD OF 'laws.FnExactPeriodOf'. -/
def fnExactPeriodOfCard : Claim7 := { stood := { row := fnExactPeriodOfRow, standIns := [], harness := (true, "4e76080c7fe53ee1b9a62e2368db6c540a83790eabf8fb8b42a737690d148f39"), looks := true }, kinds := [], alts := [], laidByText := true, laidKinds := [.data, .data, .data, .sentinel, .sentinel], laidTests := true, laidLooks := .later }
def FnExactPeriodOfCardSaid : Prop := Claim7.holds Tryz.pinned (.plain (OpenSpec.ofChange fnExactPeriodOfSpec)) fnExactPeriodOfCard

/-- THE TIED CARD OF 'laws.FnExactIsReversible'. -/
def fnExactIsReversibleCard : Claim7 := { stood := { row := fnExactIsReversibleRow, standIns := [], harness := (true, "4e76080c7fe53ee1b9a62e2368db6c540a83790eabf8fb8b42a737690d148f39"), looks := true }, kinds := [], alts := [], laidByText := true, laidKinds := [.data, .data, .data, .sentinel, .sentinel], laidTests := true, laidLooks := .later }
def FnExactIsReversibleCardSaid : Prop := Claim7.holds Tryz.pinned (.plain (OpenSpec.ofChange fnExactIsReversibleSpec)) fnExactIsReversibleCard

/-- THE TIED CARD OF 'laws.FnExactJumpChain'. -/
def fnExactJumpChainCard : Claim7 := { stood := { row := fnExactJumpChainRow, standIns := [], harness := (true, "4e76080c7fe53ee1b9a62e2368db6c540a83790eabf8fb8b42a737690d148f39"), looks := true }, kinds := [], alts := [], laidByText := true, laidKinds := [.data, .data, .data, .sentinel, .sentinel], laidTests := true, laidLooks := .later }
def FnExactJumpChainCardSaid : Prop := Claim7.holds Tryz.pinned (.plain (OpenSpec.ofChange fnExactJumpChainSpec)) fnExactJumpChainCard

/-- THE TIED CARD OF 'laws.FnExactAfterSteps'. -/
def fnExactAfterStepsCard : Claim7 := { stood := { row := fnExactAfterStepsRow, standIns := [], harness := (true, "4e76080c7fe53ee1b9a62e2368db6c540a83790eabf8fb8b42a737690d148f39"), looks := true }, kinds := [], alts := [], laidByText := true, laidKinds := [.data, .data, .data, .sentinel, .sentinel], laidTests := true, laidLooks := .later }
def FnExactAfterStepsCardSaid : Prop := Claim7.holds Tryz.pinned (.plain (OpenSpec.ofChange fnExactAfterStepsSpec)) fnExactAfterStepsCard

/-- THE TIED CARD OF 'laws.FnExactLazyChain'. -/
def fnExactLazyChainCard : Claim7 := { stood := { row := fnExactLazyChainRow, standIns := [], harness := (true, "4e76080c7fe53ee1b9a62e2368db6c540a83790eabf8fb8b42a737690d148f39"), looks := true }, kinds := [], alts := [], laidByText := true, laidKinds := [.data, .data, .data, .sentinel, .sentinel], laidTests := true, laidLooks := .later }
def FnExactLazyChainCardSaid : Prop := Claim7.holds Tryz.pinned (.plain (OpenSpec.ofChange fnExactLazyChainSpec)) fnExactLazyChainCard

/-- THE TIED CARD OF 'laws.FnExactLumpChain'. -/
def fnExactLumpChainCard : Claim7 := { stood := { row := fnExactLumpChainRow, standIns := [], harness := (true, "4e76080c7fe53ee1b9a62e2368db6c540a83790eabf8fb8b42a737690d148f39"), looks := true }, kinds := [], alts := [], laidByText := true, laidKinds := [.data, .data, .data, .sentinel, .sentinel], laidTests := true, laidLooks := .later }
def FnExactLumpChainCardSaid : Prop := Claim7.holds Tryz.pinned (.plain (OpenSpec.ofChange fnExactLumpChainSpec)) fnExactLumpChainCard

/-- THE TIED CARD OF 'laws.FnExactReverseChain'. -/
def fnExactReverseChainCard : Claim7 := { stood := { row := fnExactReverseChainRow, standIns := [], harness := (true, "4e76080c7fe53ee1b9a62e2368db6c540a83790eabf8fb8b42a737690d148f39"), looks := true }, kinds := [], alts := [], laidByText := true, laidKinds := [.data, .data, .data, .sentinel, .sentinel], laidTests := true, laidLooks := .later }
def FnExactReverseChainCardSaid : Prop := Claim7.holds Tryz.pinned (.plain (OpenSpec.ofChange fnExactReverseChainSpec)) fnExactReverseChainCard

/-- THE TIED CARD OF 'laws.FnExactSharesOfRest'. -/
def fnExactSharesOfRestCard : Claim7 := { stood := { row := fnExactSharesOfRestRow, standIns := [], harness := (true, "4e76080c7fe53ee1b9a62e2368db6c540a83790eabf8fb8b42a737690d148f39"), looks := true }, kinds := [], alts := [], laidByText := true, laidKinds := [.data, .data, .data, .sentinel, .sentinel], laidTests := true, laidLooks := .later }
def FnExactSharesOfRestCardSaid : Prop := Claim7.holds Tryz.pinned (.plain (OpenSpec.ofChange fnExactSharesOfRestSpec)) fnExactSharesOfRestCard

/-- THE TIED CARD OF 'laws.FnExactFarFromRest'. -/
def fnExactFarFromRestCard : Claim7 := { stood := { row := fnExactFarFromRestRow, standIns := [], harness := (true, "4e76080c7fe53ee1b9a62e2368db6c540a83790eabf8fb8b42a737690d148f39"), looks := true }, kinds := [], alts := [], laidByText := true, laidKinds := [.data, .data, .data, .sentinel, .sentinel], laidTests := true, laidLooks := .later }
def FnExactFarFromRestCardSaid : Prop := Claim7.holds Tryz.pinned (.plain (OpenSpec.ofChange fnExactFarFromRestSpec)) fnExactFarFromRestCard

/-- THE SECOND FORM's CARD OF 'laws.FnExactClassesOf'. -/
def fnExactClassesOfUptoCard : Claim7 := { stood := { row := fnExactClassesOfUptoRow, standIns := [], harness := (true, "4e76080c7fe53ee1b9a62e2368db6c540a83790eabf8fb8b42a737690d148f39"), looks := true }, kinds := [], alts := [], laidByText := true, laidKinds := [.data, .data, .data, .sentinel, .sentinel], laidTests := true, laidLooks := .later }
def FnExactClassesOfUptoCardSaid : Prop := Claim7.holds Tryz.pinned (.plain (OpenSpec.upto fnExactClassesOfSpec)) fnExactClassesOfUptoCard

/-- THE SECOND FORM's CARD OF 'laws.FnExactToWeights'. -/
def fnExactToWeightsUptoCard : Claim7 := { stood := { row := fnExactToWeightsUptoRow, standIns := [], harness := (true, "4e76080c7fe53ee1b9a62e2368db6c540a83790eabf8fb8b42a737690d148f39"), looks := true }, kinds := [], alts := [], laidByText := true, laidKinds := [.data, .data, .data, .sentinel, .sentinel], laidTests := true, laidLooks := .later }
def FnExactToWeightsUptoCardSaid : Prop := Claim7.holds Tryz.pinned (.plain (OpenSpec.upto fnExactToWeightsSpec)) fnExactToWeightsUptoCard

/-- THE SECOND FORM's CARD OF 'laws.FnExactClosedClasses'. -/
def fnExactClosedClassesUptoCard : Claim7 := { stood := { row := fnExactClosedClassesUptoRow, standIns := [], harness := (true, "4e76080c7fe53ee1b9a62e2368db6c540a83790eabf8fb8b42a737690d148f39"), looks := true }, kinds := [], alts := [], laidByText := true, laidKinds := [.data, .data, .data, .sentinel, .sentinel], laidTests := true, laidLooks := .later }
def FnExactClosedClassesUptoCardSaid : Prop := Claim7.holds Tryz.pinned (.plain (OpenSpec.upto fnExactClosedClassesSpec)) fnExactClosedClassesUptoCard

/-- THE SECOND FORM's CARD OF 'laws.FnExactPeriodOf'. -/
def fnExactPeriodOfUptoCard : Claim7 := { stood := { row := fnExactPeriodOfUptoRow, standIns := [], harness := (true, "4e76080c7fe53ee1b9a62e2368db6c540a83790eabf8fb8b42a737690d148f39"), looks := true }, kinds := [], alts := [], laidByText := true, laidKinds := [.data, .data, .data, .sentinel, .sentinel], laidTests := true, laidLooks := .later }
def FnExactPeriodOfUptoCardSaid : Prop := Claim7.holds Tryz.pinned (.plain (OpenSpec.upto fnExactPeriodOfSpec)) fnExactPeriodOfUptoCard

/-- THE SECOND FORM's CARD OF 'laws.FnExactIsReversible'. -/
def fnExactIsReversibleUptoCard : Claim7 := { stood := { row := fnExactIsReversibleUptoRow, standIns := [], harness := (true, "4e76080c7fe53ee1b9a62e2368db6c540a83790eabf8fb8b42a737690d148f39"), looks := true }, kinds := [], alts := [], laidByText := true, laidKinds := [.data, .data, .data, .sentinel, .sentinel], laidTests := true, laidLooks := .later }
def FnExactIsReversibleUptoCardSaid : Prop := Claim7.holds Tryz.pinned (.plain (OpenSpec.upto fnExactIsReversibleSpec)) fnExactIsReversibleUptoCard

/-- THE SECOND FORM's CARD OF 'laws.FnExactJumpChain'. -/
def fnExactJumpChainUptoCard : Claim7 := { stood := { row := fnExactJumpChainUptoRow, standIns := [], harness := (true, "4e76080c7fe53ee1b9a62e2368db6c540a83790eabf8fb8b42a737690d148f39"), looks := true }, kinds := [], alts := [], laidByText := true, laidKinds := [.data, .data, .data, .sentinel, .sentinel], laidTests := true, laidLooks := .later }
def FnExactJumpChainUptoCardSaid : Prop := Claim7.holds Tryz.pinned (.plain (OpenSpec.upto fnExactJumpChainSpec)) fnExactJumpChainUptoCard

/-- THE SECOND FORM's CARD OF 'laws.FnExactAfterSteps'. -/
def fnExactAfterStepsUptoCard : Claim7 := { stood := { row := fnExactAfterStepsUptoRow, standIns := [], harness := (true, "4e76080c7fe53ee1b9a62e2368db6c540a83790eabf8fb8b42a737690d148f39"), looks := true }, kinds := [], alts := [], laidByText := true, laidKinds := [.data, .data, .data, .sentinel, .sentinel], laidTests := true, laidLooks := .later }
def FnExactAfterStepsUptoCardSaid : Prop := Claim7.holds Tryz.pinned (.plain (OpenSpec.upto fnExactAfterStepsSpec)) fnExactAfterStepsUptoCard

/-- THE SECOND FORM's CARD OF 'laws.FnExactLazyChain'. -/
def fnExactLazyChainUptoCard : Claim7 := { stood := { row := fnExactLazyChainUptoRow, standIns := [], harness := (true, "4e76080c7fe53ee1b9a62e2368db6c540a83790eabf8fb8b42a737690d148f39"), looks := true }, kinds := [], alts := [], laidByText := true, laidKinds := [.data, .data, .data, .sentinel, .sentinel], laidTests := true, laidLooks := .later }
def FnExactLazyChainUptoCardSaid : Prop := Claim7.holds Tryz.pinned (.plain (OpenSpec.upto fnExactLazyChainSpec)) fnExactLazyChainUptoCard

/-- THE SECOND FORM's CARD OF 'laws.FnExactLumpChain'. -/
def fnExactLumpChainUptoCard : Claim7 := { stood := { row := fnExactLumpChainUptoRow, standIns := [], harness := (true, "4e76080c7fe53ee1b9a62e2368db6c540a83790eabf8fb8b42a737690d148f39"), looks := true }, kinds := [], alts := [], laidByText := true, laidKinds := [.data, .data, .data, .sentinel, .sentinel], laidTests := true, laidLooks := .later }
def FnExactLumpChainUptoCardSaid : Prop := Claim7.holds Tryz.pinned (.plain (OpenSpec.upto fnExactLumpChainSpec)) fnExactLumpChainUptoCard

/-- THE SECOND FORM's CARD OF 'laws.FnExactReverseChain'. -/
def fnExactReverseChainUptoCard : Claim7 := { stood := { row := fnExactReverseChainUptoRow, standIns := [], harness := (true, "4e76080c7fe53ee1b9a62e2368db6c540a83790eabf8fb8b42a737690d148f39"), looks := true }, kinds := [], alts := [], laidByText := true, laidKinds := [.data, .data, .data, .sentinel, .sentinel], laidTests := true, laidLooks := .later }
def FnExactReverseChainUptoCardSaid : Prop := Claim7.holds Tryz.pinned (.plain (OpenSpec.upto fnExactReverseChainSpec)) fnExactReverseChainUptoCard

/-- THE SECOND FORM's CARD OF 'laws.FnExactSharesOfRest'. -/
def fnExactSharesOfRestUptoCard : Claim7 := { stood := { row := fnExactSharesOfRestUptoRow, standIns := [], harness := (true, "4e76080c7fe53ee1b9a62e2368db6c540a83790eabf8fb8b42a737690d148f39"), looks := true }, kinds := [], alts := [], laidByText := true, laidKinds := [.data, .data, .data, .sentinel, .sentinel], laidTests := true, laidLooks := .later }
def FnExactSharesOfRestUptoCardSaid : Prop := Claim7.holds Tryz.pinned (.plain (OpenSpec.upto fnExactSharesOfRestSpec)) fnExactSharesOfRestUptoCard

/-- THE SECOND FORM's CARD OF 'laws.FnExactFarFromRest'. -/
def fnExactFarFromRestUptoCard : Claim7 := { stood := { row := fnExactFarFromRestUptoRow, standIns := [], harness := (true, "4e76080c7fe53ee1b9a62e2368db6c540a83790eabf8fb8b42a737690d148f39"), looks := true }, kinds := [], alts := [], laidByText := true, laidKinds := [.data, .data, .data, .sentinel, .sentinel], laidTests := true, laidLooks := .later }
def FnExactFarFromRestUptoCardSaid : Prop := Claim7.holds Tryz.pinned (.plain (OpenSpec.upto fnExactFarFromRestSpec)) fnExactFarFromRestUptoCard
end Rows
end Go.Proofs.YtdpljomfkoojnaaGreatDoor
