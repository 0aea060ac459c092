/-
  DERIVED. GIVEN WITH THE SEED: THE CARDS: each row of YtlnejaehiangnaaGreatDoorRows.lean that lists a variable, with what it lists TIED to the program's text (the seventh form; the later family's looks); each row that meets fmt, with fmt's text TOLD by the authors' own Lean function (tested against real Go, not proved from fmt's source: count such statements apart). THE CARD IS WHAT COUNTS. Prove the row's statement (the work); the ties are given (YtlnejaehiangnaaGreatDoorTie.lean); close each card by the builder's one call (the guide's Derived/Test/ToyasCard.lean, 'card_holds'). Laid BY PROGRAM, IN A SANDBOX (cutbox-door.mjs). By AI agents, Wed Nov 11 2026. No macro, syntax, notation, axiom, sorry.
-/
import Derived.Test.YtlnejaehiangnaaGreatDoorRows
import GoSem.ClaimSeven
namespace Go.Proofs.YtlnejaehiangnaaGreatDoor
namespace Rows

/-- THE TIED CARD OF 'laws.FnExactIsInBalance'. -/
def fnExactIsInBalanceCard : Claim7 := { stood := { row := fnExactIsInBalanceRow, standIns := [], harness := (true, "c61bbde17c0c3fbf2b812c8b05dff3438516714160a48b941397eb42f45ded99"), looks := true }, kinds := [], alts := [], laidByText := true, laidKinds := [.data, .data, .data, .sentinel, .sentinel], laidTests := true, laidLooks := .later }
def FnExactIsInBalanceCardSaid : Prop := Claim7.holds Tryz.pinned (.plain (OpenSpec.ofChange fnExactIsInBalanceSpec)) fnExactIsInBalanceCard

/-- THE TIED CARD OF 'laws.FnExactValidChain'. -/
def fnExactValidChainCard : Claim7 := { stood := { row := fnExactValidChainRow, standIns := [], harness := (true, "c61bbde17c0c3fbf2b812c8b05dff3438516714160a48b941397eb42f45ded99"), looks := true }, kinds := [], alts := [], laidByText := true, laidKinds := [.data, .data, .data, .sentinel, .sentinel], laidTests := true, laidLooks := .later }
def FnExactValidChainCardSaid : Prop := Claim7.holds Tryz.pinned (.plain (OpenSpec.ofChange fnExactValidChainSpec)) fnExactValidChainCard

/-- THE TIED CARD OF 'laws.FnExactLossChance'. -/
def fnExactLossChanceCard : Claim7 := { stood := { row := fnExactLossChanceRow, standIns := [], harness := (true, "c61bbde17c0c3fbf2b812c8b05dff3438516714160a48b941397eb42f45ded99"), looks := true }, kinds := [], alts := [], laidByText := true, laidKinds := [.data, .data, .data, .sentinel, .sentinel], laidTests := true, laidLooks := .later }
def FnExactLossChanceCardSaid : Prop := Claim7.holds Tryz.pinned (.plain (OpenSpec.ofChange fnExactLossChanceSpec)) fnExactLossChanceCard

/-- THE TIED CARD OF 'laws.FnExactUsersLine'. -/
def fnExactUsersLineCard : Claim7 := { stood := { row := fnExactUsersLineRow, standIns := [], harness := (true, "c61bbde17c0c3fbf2b812c8b05dff3438516714160a48b941397eb42f45ded99"), looks := true }, kinds := [], alts := [], laidByText := true, laidKinds := [.data, .data, .data, .sentinel, .sentinel], laidTests := true, laidLooks := .later }
def FnExactUsersLineCardSaid : Prop := Claim7.holds Tryz.pinned (.plain (OpenSpec.ofChange fnExactUsersLineSpec)) fnExactUsersLineCard

/-- THE TIED CARD OF 'laws.FnExactWaitChance'. -/
def fnExactWaitChanceCard : Claim7 := { stood := { row := fnExactWaitChanceRow, standIns := [], harness := (true, "c61bbde17c0c3fbf2b812c8b05dff3438516714160a48b941397eb42f45ded99"), looks := true }, kinds := [], alts := [], laidByText := true, laidKinds := [.data, .data, .data, .sentinel, .sentinel], laidTests := true, laidLooks := .later }
def FnExactWaitChanceCardSaid : Prop := Claim7.holds Tryz.pinned (.plain (OpenSpec.ofChange fnExactWaitChanceSpec)) fnExactWaitChanceCard

/-- THE TIED CARD OF 'laws.FnExactServersLine'. -/
def fnExactServersLineCard : Claim7 := { stood := { row := fnExactServersLineRow, standIns := [], harness := (true, "c61bbde17c0c3fbf2b812c8b05dff3438516714160a48b941397eb42f45ded99"), looks := true }, kinds := [], alts := [], laidByText := true, laidKinds := [.data, .data, .data, .sentinel, .sentinel], laidTests := true, laidLooks := .later }
def FnExactServersLineCardSaid : Prop := Claim7.holds Tryz.pinned (.plain (OpenSpec.ofChange fnExactServersLineSpec)) fnExactServersLineCard

/-- THE TIED CARD OF 'laws.FnExactReachedFrom'. -/
def fnExactReachedFromCard : Claim7 := { stood := { row := fnExactReachedFromRow, standIns := [], harness := (true, "c61bbde17c0c3fbf2b812c8b05dff3438516714160a48b941397eb42f45ded99"), looks := true }, kinds := [], alts := [], laidByText := true, laidKinds := [.data, .data, .data, .sentinel, .sentinel], laidTests := true, laidLooks := .later }
def FnExactReachedFromCardSaid : Prop := Claim7.holds Tryz.pinned (.plain (OpenSpec.ofChange fnExactReachedFromSpec)) fnExactReachedFromCard

/-- THE TIED CARD OF 'laws.FnExactTimeBetween'. -/
def fnExactTimeBetweenCard : Claim7 := { stood := { row := fnExactTimeBetweenRow, standIns := [], harness := (true, "c61bbde17c0c3fbf2b812c8b05dff3438516714160a48b941397eb42f45ded99"), looks := true }, kinds := [], alts := [], laidByText := true, laidKinds := [.data, .data, .data, .sentinel, .sentinel], laidTests := true, laidLooks := .later }
def FnExactTimeBetweenCardSaid : Prop := Claim7.holds Tryz.pinned (.plain (OpenSpec.ofChange fnExactTimeBetweenSpec)) fnExactTimeBetweenCard

/-- THE TIED CARD OF 'laws.FnExactUpTimes'. -/
def fnExactUpTimesCard : Claim7 := { stood := { row := fnExactUpTimesRow, standIns := [], harness := (true, "c61bbde17c0c3fbf2b812c8b05dff3438516714160a48b941397eb42f45ded99"), looks := true }, kinds := [], alts := [], laidByText := true, laidKinds := [.data, .data, .data, .sentinel, .sentinel], laidTests := true, laidLooks := .later }
def FnExactUpTimesCardSaid : Prop := Claim7.holds Tryz.pinned (.plain (OpenSpec.ofChange fnExactUpTimesSpec)) fnExactUpTimesCard

/-- THE TIED CARD OF 'laws.FnExactDownTimes'. -/
def fnExactDownTimesCard : Claim7 := { stood := { row := fnExactDownTimesRow, standIns := [], harness := (true, "c61bbde17c0c3fbf2b812c8b05dff3438516714160a48b941397eb42f45ded99"), looks := true }, kinds := [], alts := [], laidByText := true, laidKinds := [.data, .data, .data, .sentinel, .sentinel], laidTests := true, laidLooks := .later }
def FnExactDownTimesCardSaid : Prop := Claim7.holds Tryz.pinned (.plain (OpenSpec.ofChange fnExactDownTimesSpec)) fnExactDownTimesCard

/-- THE SECOND FORM's CARD OF 'laws.FnExactIsInBalance'. -/
def fnExactIsInBalanceUptoCard : Claim7 := { stood := { row := fnExactIsInBalanceUptoRow, standIns := [], harness := (true, "c61bbde17c0c3fbf2b812c8b05dff3438516714160a48b941397eb42f45ded99"), looks := true }, kinds := [], alts := [], laidByText := true, laidKinds := [.data, .data, .data, .sentinel, .sentinel], laidTests := true, laidLooks := .later }
def FnExactIsInBalanceUptoCardSaid : Prop := Claim7.holds Tryz.pinned (.plain (OpenSpec.upto fnExactIsInBalanceSpec)) fnExactIsInBalanceUptoCard

/-- THE SECOND FORM's CARD OF 'laws.FnExactValidChain'. -/
def fnExactValidChainUptoCard : Claim7 := { stood := { row := fnExactValidChainUptoRow, standIns := [], harness := (true, "c61bbde17c0c3fbf2b812c8b05dff3438516714160a48b941397eb42f45ded99"), looks := true }, kinds := [], alts := [], laidByText := true, laidKinds := [.data, .data, .data, .sentinel, .sentinel], laidTests := true, laidLooks := .later }
def FnExactValidChainUptoCardSaid : Prop := Claim7.holds Tryz.pinned (.plain (OpenSpec.upto fnExactValidChainSpec)) fnExactValidChainUptoCard

/-- THE SECOND FORM's CARD OF 'laws.FnExactLossChance'. -/
def fnExactLossChanceUptoCard : Claim7 := { stood := { row := fnExactLossChanceUptoRow, standIns := [], harness := (true, "c61bbde17c0c3fbf2b812c8b05dff3438516714160a48b941397eb42f45ded99"), looks := true }, kinds := [], alts := [], laidByText := true, laidKinds := [.data, .data, .data, .sentinel, .sentinel], laidTests := true, laidLooks := .later }
def FnExactLossChanceUptoCardSaid : Prop := Claim7.holds Tryz.pinned (.plain (OpenSpec.upto fnExactLossChanceSpec)) fnExactLossChanceUptoCard

/-- THE SECOND FORM's CARD OF 'laws.FnExactUsersLine'. -/
def fnExactUsersLineUptoCard : Claim7 := { stood := { row := fnExactUsersLineUptoRow, standIns := [], harness := (true, "c61bbde17c0c3fbf2b812c8b05dff3438516714160a48b941397eb42f45ded99"), looks := true }, kinds := [], alts := [], laidByText := true, laidKinds := [.data, .data, .data, .sentinel, .sentinel], laidTests := true, laidLooks := .later }
def FnExactUsersLineUptoCardSaid : Prop := Claim7.holds Tryz.pinned (.plain (OpenSpec.upto fnExactUsersLineSpec)) fnExactUsersLineUptoCard

/-- THE SECOND FORM's CARD OF 'laws.FnExactWaitChance'. -/
def fnExactWaitChanceUptoCard : Claim7 := { stood := { row := fnExactWaitChanceUptoRow, standIns := [], harness := (true, "c61bbde17c0c3fbf2b812c8b05dff3438516714160a48b941397eb42f45ded99"), looks := true }, kinds := [], alts := [], laidByText := true, laidKinds := [.data, .data, .data, .sentinel, .sentinel], laidTests := true, laidLooks := .later }
def FnExactWaitChanceUptoCardSaid : Prop := Claim7.holds Tryz.pinned (.plain (OpenSpec.upto fnExactWaitChanceSpec)) fnExactWaitChanceUptoCard

/-- THE SECOND FORM's CARD OF 'laws.FnExactServersLine'. -/
def fnExactServersLineUptoCard : Claim7 := { stood := { row := fnExactServersLineUptoRow, standIns := [], harness := (true, "c61bbde17c0c3fbf2b812c8b05dff3438516714160a48b941397eb42f45ded99"), looks := true }, kinds := [], alts := [], laidByText := true, laidKinds := [.data, .data, .data, .sentinel, .sentinel], laidTests := true, laidLooks := .later }
def FnExactServersLineUptoCardSaid : Prop := Claim7.holds Tryz.pinned (.plain (OpenSpec.upto fnExactServersLineSpec)) fnExactServersLineUptoCard

/-- THE SECOND FORM's CARD OF 'laws.FnExactReachedFrom'. -/
def fnExactReachedFromUptoCard : Claim7 := { stood := { row := fnExactReachedFromUptoRow, standIns := [], harness := (true, "c61bbde17c0c3fbf2b812c8b05dff3438516714160a48b941397eb42f45ded99"), looks := true }, kinds := [], alts := [], laidByText := true, laidKinds := [.data, .data, .data, .sentinel, .sentinel], laidTests := true, laidLooks := .later }
def FnExactReachedFromUptoCardSaid : Prop := Claim7.holds Tryz.pinned (.plain (OpenSpec.upto fnExactReachedFromSpec)) fnExactReachedFromUptoCard

/-- THE SECOND FORM's CARD OF 'laws.FnExactTimeBetween'. -/
def fnExactTimeBetweenUptoCard : Claim7 := { stood := { row := fnExactTimeBetweenUptoRow, standIns := [], harness := (true, "c61bbde17c0c3fbf2b812c8b05dff3438516714160a48b941397eb42f45ded99"), looks := true }, kinds := [], alts := [], laidByText := true, laidKinds := [.data, .data, .data, .sentinel, .sentinel], laidTests := true, laidLooks := .later }
def FnExactTimeBetweenUptoCardSaid : Prop := Claim7.holds Tryz.pinned (.plain (OpenSpec.upto fnExactTimeBetweenSpec)) fnExactTimeBetweenUptoCard

/-- THE SECOND FORM's CARD OF 'laws.FnExactUpTimes'. -/
def fnExactUpTimesUptoCard : Claim7 := { stood := { row := fnExactUpTimesUptoRow, standIns := [], harness := (true, "c61bbde17c0c3fbf2b812c8b05dff3438516714160a48b941397eb42f45ded99"), looks := true }, kinds := [], alts := [], laidByText := true, laidKinds := [.data, .data, .data, .sentinel, .sentinel], laidTests := true, laidLooks := .later }
def FnExactUpTimesUptoCardSaid : Prop := Claim7.holds Tryz.pinned (.plain (OpenSpec.upto fnExactUpTimesSpec)) fnExactUpTimesUptoCard

/-- THE SECOND FORM's CARD OF 'laws.FnExactDownTimes'. -/
def fnExactDownTimesUptoCard : Claim7 := { stood := { row := fnExactDownTimesUptoRow, standIns := [], harness := (true, "c61bbde17c0c3fbf2b812c8b05dff3438516714160a48b941397eb42f45ded99"), looks := true }, kinds := [], alts := [], laidByText := true, laidKinds := [.data, .data, .data, .sentinel, .sentinel], laidTests := true, laidLooks := .later }
def FnExactDownTimesUptoCardSaid : Prop := Claim7.holds Tryz.pinned (.plain (OpenSpec.upto fnExactDownTimesSpec)) fnExactDownTimesUptoCard
end Rows
end Go.Proofs.YtlnejaehiangnaaGreatDoor
