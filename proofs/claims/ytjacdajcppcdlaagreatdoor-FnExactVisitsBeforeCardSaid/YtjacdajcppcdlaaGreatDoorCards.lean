/-
  DERIVED. GIVEN WITH THE SEED: THE CARDS: each row of YtjacdajcppcdlaaGreatDoorRows.lean that lists a variable, with what it lists TIED to the program's text (the seventh form; the later family's looks); each row that meets fmt, with fmt's text TOLD by the authors' own Lean function (tested against real Go, not proved from fmt's source: count such statements apart). THE CARD IS WHAT COUNTS. Prove the row's statement (the work); the ties are given (YtjacdajcppcdlaaGreatDoorTie.lean); close each card by the builder's one call (the guide's Derived/Test/ToyasCard.lean, 'card_holds'). Laid BY PROGRAM, IN A SANDBOX (cutbox-door.mjs). By AI agents, Wed Nov 11 2026. No macro, syntax, notation, axiom, sorry.
-/
import Derived.Test.YtjacdajcppcdlaaGreatDoorRows
import GoSem.ClaimSeven
namespace Go.Proofs.YtjacdajcppcdlaaGreatDoor
namespace Rows

/-- THE TIED CARD OF 'laws.FnExactHitChances'. -/
def fnExactHitChancesCard : Claim7 := { stood := { row := fnExactHitChancesRow, standIns := [], harness := (true, "c38a9387fe119abf20fe8898690cdb844314f5cab0fbf91208f025a7ff8c623d"), looks := true }, kinds := [], alts := [], laidByText := true, laidKinds := [.data, .data, .data, .sentinel, .sentinel], laidTests := true, laidLooks := .later }
def FnExactHitChancesCardSaid : Prop := Claim7.holds Tryz.pinned (.plain (OpenSpec.ofChange fnExactHitChancesSpec)) fnExactHitChancesCard

/-- THE TIED CARD OF 'laws.FnExactHitTimes'. -/
def fnExactHitTimesCard : Claim7 := { stood := { row := fnExactHitTimesRow, standIns := [], harness := (true, "c38a9387fe119abf20fe8898690cdb844314f5cab0fbf91208f025a7ff8c623d"), looks := true }, kinds := [], alts := [], laidByText := true, laidKinds := [.data, .data, .data, .sentinel, .sentinel], laidTests := true, laidLooks := .later }
def FnExactHitTimesCardSaid : Prop := Claim7.holds Tryz.pinned (.plain (OpenSpec.ofChange fnExactHitTimesSpec)) fnExactHitTimesCard

/-- THE TIED CARD OF 'laws.FnExactReturnTime'. -/
def fnExactReturnTimeCard : Claim7 := { stood := { row := fnExactReturnTimeRow, standIns := [], harness := (true, "c38a9387fe119abf20fe8898690cdb844314f5cab0fbf91208f025a7ff8c623d"), looks := true }, kinds := [], alts := [], laidByText := true, laidKinds := [.data, .data, .data, .sentinel, .sentinel], laidTests := true, laidLooks := .later }
def FnExactReturnTimeCardSaid : Prop := Claim7.holds Tryz.pinned (.plain (OpenSpec.ofChange fnExactReturnTimeSpec)) fnExactReturnTimeCard

/-- THE TIED CARD OF 'laws.FnExactVisitsBefore'. -/
def fnExactVisitsBeforeCard : Claim7 := { stood := { row := fnExactVisitsBeforeRow, standIns := [], harness := (true, "c38a9387fe119abf20fe8898690cdb844314f5cab0fbf91208f025a7ff8c623d"), looks := true }, kinds := [], alts := [], laidByText := true, laidKinds := [.data, .data, .data, .sentinel, .sentinel], laidTests := true, laidLooks := .later }
def FnExactVisitsBeforeCardSaid : Prop := Claim7.holds Tryz.pinned (.plain (OpenSpec.ofChange fnExactVisitsBeforeSpec)) fnExactVisitsBeforeCard

/-- THE SECOND FORM's CARD OF 'laws.FnExactHitChances'. -/
def fnExactHitChancesUptoCard : Claim7 := { stood := { row := fnExactHitChancesUptoRow, standIns := [], harness := (true, "c38a9387fe119abf20fe8898690cdb844314f5cab0fbf91208f025a7ff8c623d"), looks := true }, kinds := [], alts := [], laidByText := true, laidKinds := [.data, .data, .data, .sentinel, .sentinel], laidTests := true, laidLooks := .later }
def FnExactHitChancesUptoCardSaid : Prop := Claim7.holds Tryz.pinned (.plain (OpenSpec.upto fnExactHitChancesSpec)) fnExactHitChancesUptoCard

/-- THE SECOND FORM's CARD OF 'laws.FnExactHitTimes'. -/
def fnExactHitTimesUptoCard : Claim7 := { stood := { row := fnExactHitTimesUptoRow, standIns := [], harness := (true, "c38a9387fe119abf20fe8898690cdb844314f5cab0fbf91208f025a7ff8c623d"), looks := true }, kinds := [], alts := [], laidByText := true, laidKinds := [.data, .data, .data, .sentinel, .sentinel], laidTests := true, laidLooks := .later }
def FnExactHitTimesUptoCardSaid : Prop := Claim7.holds Tryz.pinned (.plain (OpenSpec.upto fnExactHitTimesSpec)) fnExactHitTimesUptoCard

/-- THE SECOND FORM's CARD OF 'laws.FnExactReturnTime'. -/
def fnExactReturnTimeUptoCard : Claim7 := { stood := { row := fnExactReturnTimeUptoRow, standIns := [], harness := (true, "c38a9387fe119abf20fe8898690cdb844314f5cab0fbf91208f025a7ff8c623d"), looks := true }, kinds := [], alts := [], laidByText := true, laidKinds := [.data, .data, .data, .sentinel, .sentinel], laidTests := true, laidLooks := .later }
def FnExactReturnTimeUptoCardSaid : Prop := Claim7.holds Tryz.pinned (.plain (OpenSpec.upto fnExactReturnTimeSpec)) fnExactReturnTimeUptoCard

/-- THE SECOND FORM's CARD OF 'laws.FnExactVisitsBefore'. -/
def fnExactVisitsBeforeUptoCard : Claim7 := { stood := { row := fnExactVisitsBeforeUptoRow, standIns := [], harness := (true, "c38a9387fe119abf20fe8898690cdb844314f5cab0fbf91208f025a7ff8c623d"), looks := true }, kinds := [], alts := [], laidByText := true, laidKinds := [.data, .data, .data, .sentinel, .sentinel], laidTests := true, laidLooks := .later }
def FnExactVisitsBeforeUptoCardSaid : Prop := Claim7.holds Tryz.pinned (.plain (OpenSpec.upto fnExactVisitsBeforeSpec)) fnExactVisitsBeforeUptoCard
end Rows
end Go.Proofs.YtjacdajcppcdlaaGreatDoor
