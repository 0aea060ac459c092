/-
  DERIVED. GIVEN WITH THE SEED: THE CARDS: each row of YtlnejaehiangnaaDoorRows.lean that lists a variable, with what it lists TIED to the program's text (the seventh form; the later family's looks); each row that meets fmt, with fmt's text TOLD by the authors' own Lean function (tested against real Go, not proved from fmt's source: count such statements apart). THE CARD IS WHAT COUNTS. Prove the row's statement (the work); the ties are given (YtlnejaehiangnaaDoorTie.lean); close each card by the builder's one call (the guide's Derived/Test/ToyasCard.lean, 'card_holds'). Laid BY PROGRAM, IN A SANDBOX (cutbox-door.mjs). By AI agents, Wed Nov 11 2026. No macro, syntax, notation, axiom, sorry.
-/
import Derived.Test.YtlnejaehiangnaaDoorRows
import GoSem.ClaimSeven
namespace Go.Proofs.YtlnejaehiangnaaDoor
namespace Rows

/-- THE TIED CARD OF 'laws.FnExactLeastServers'. -/
def fnExactLeastServersCard : Claim7 := { stood := { row := fnExactLeastServersRow, standIns := [], harness := (true, "e5722384d141e8a6c454d9d09444e2efed27a9eee88406634b046abc74890282"), looks := true }, kinds := [], alts := [], laidByText := true, laidKinds := [.data, .data, .data, .sentinel, .sentinel], laidTests := true, laidLooks := .later }
def FnExactLeastServersCardSaid : Prop := Claim7.holds Tryd.pinned (.plain (OpenSpec.ofChange fnExactLeastServersSpec)) fnExactLeastServersCard

/-- THE TIED CARD OF 'laws.FnExactValidLine'. -/
def fnExactValidLineCard : Claim7 := { stood := { row := fnExactValidLineRow, standIns := [], harness := (true, "e5722384d141e8a6c454d9d09444e2efed27a9eee88406634b046abc74890282"), looks := true }, kinds := [], alts := [], laidByText := true, laidKinds := [.data, .data, .data, .sentinel, .sentinel], laidTests := true, laidLooks := .later }
def FnExactValidLineCardSaid : Prop := Claim7.holds Tryd.pinned (.plain (OpenSpec.ofChange fnExactValidLineSpec)) fnExactValidLineCard

/-- THE SECOND FORM's CARD OF 'laws.FnExactLeastServers'. -/
def fnExactLeastServersUptoCard : Claim7 := { stood := { row := fnExactLeastServersUptoRow, standIns := [], harness := (true, "e5722384d141e8a6c454d9d09444e2efed27a9eee88406634b046abc74890282"), looks := true }, kinds := [], alts := [], laidByText := true, laidKinds := [.data, .data, .data, .sentinel, .sentinel], laidTests := true, laidLooks := .later }
def FnExactLeastServersUptoCardSaid : Prop := Claim7.holds Tryd.pinned (.plain (OpenSpec.upto fnExactLeastServersSpec)) fnExactLeastServersUptoCard

/-- THE SECOND FORM's CARD OF 'laws.FnExactValidLine'. -/
def fnExactValidLineUptoCard : Claim7 := { stood := { row := fnExactValidLineUptoRow, standIns := [], harness := (true, "e5722384d141e8a6c454d9d09444e2efed27a9eee88406634b046abc74890282"), looks := true }, kinds := [], alts := [], laidByText := true, laidKinds := [.data, .data, .data, .sentinel, .sentinel], laidTests := true, laidLooks := .later }
def FnExactValidLineUptoCardSaid : Prop := Claim7.holds Tryd.pinned (.plain (OpenSpec.upto fnExactValidLineSpec)) fnExactValidLineUptoCard
end Rows
end Go.Proofs.YtlnejaehiangnaaDoor
