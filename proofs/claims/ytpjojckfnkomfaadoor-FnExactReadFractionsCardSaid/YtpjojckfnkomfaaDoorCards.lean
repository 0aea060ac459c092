/-
  DERIVED. GIVEN WITH THE SEED: THE CARDS: each row of YtpjojckfnkomfaaDoorRows.lean that lists a variable, with what it lists TIED to the program's text (the seventh form; the later family's looks); each row that meets fmt, with fmt's text TOLD by the authors' own Lean function (tested against real Go, not proved from fmt's source: count such statements apart). THE CARD IS WHAT COUNTS. Prove the row's statement (the work); the ties are given (YtpjojckfnkomfaaDoorTie.lean); close each card by the builder's one call (the guide's Derived/Test/ToyasCard.lean, 'card_holds'). Laid BY PROGRAM, IN A SANDBOX (cutbox-door.mjs). By AI agents, Wed Nov 11 2026. No macro, syntax, notation, axiom, sorry.
-/
import Derived.Test.YtpjojckfnkomfaaDoorRows
import GoSem.ClaimSeven
namespace Go.Proofs.YtpjojckfnkomfaaDoor
namespace Rows

/-- THE TIED CARD OF 'laws.FnExactFractionsText'. -/
def fnExactFractionsTextCard : Claim7 := { stood := { row := fnExactFractionsTextRow, standIns := [], harness := (true, "859618a750c2bdc5d8a755d0b3f0c55af19bbc02be09663815f34b923dfe1081"), looks := true }, kinds := [], alts := [], laidByText := true, laidKinds := [.data, .data, .data, .sentinel, .sentinel], laidTests := true, laidLooks := .later }
def FnExactFractionsTextCardSaid : Prop := Claim7.holds Tryd.pinned (.plain (OpenSpec.ofChange fnExactFractionsTextSpec)) fnExactFractionsTextCard

/-- THE TIED CARD OF 'laws.FnExactReadFractions'. -/
def fnExactReadFractionsCard : Claim7 := { stood := { row := fnExactReadFractionsRow, standIns := [], harness := (true, "859618a750c2bdc5d8a755d0b3f0c55af19bbc02be09663815f34b923dfe1081"), looks := true }, kinds := [], alts := [], laidByText := true, laidKinds := [.data, .data, .data, .data, .sentinel, .sentinel, .pinned], laidTests := true, laidLooks := .later }
def FnExactReadFractionsCardSaid : Prop := Claim7.holds Tryd.pinned (.plain (OpenSpec.ofChange fnExactReadFractionsSpec)) fnExactReadFractionsCard

/-- THE SECOND FORM's CARD OF 'laws.FnExactFractionsText'. -/
def fnExactFractionsTextUptoCard : Claim7 := { stood := { row := fnExactFractionsTextUptoRow, standIns := [], harness := (true, "859618a750c2bdc5d8a755d0b3f0c55af19bbc02be09663815f34b923dfe1081"), looks := true }, kinds := [], alts := [], laidByText := true, laidKinds := [.data, .data, .data, .sentinel, .sentinel], laidTests := true, laidLooks := .later }
def FnExactFractionsTextUptoCardSaid : Prop := Claim7.holds Tryd.pinned (.plain (OpenSpec.upto fnExactFractionsTextSpec)) fnExactFractionsTextUptoCard

/-- THE SECOND FORM's CARD OF 'laws.FnExactReadFractions'. -/
def fnExactReadFractionsUptoCard : Claim7 := { stood := { row := fnExactReadFractionsUptoRow, standIns := [], harness := (true, "859618a750c2bdc5d8a755d0b3f0c55af19bbc02be09663815f34b923dfe1081"), looks := true }, kinds := [], alts := [], laidByText := true, laidKinds := [.data, .data, .data, .data, .sentinel, .sentinel, .pinned], laidTests := true, laidLooks := .later }
def FnExactReadFractionsUptoCardSaid : Prop := Claim7.holds Tryd.pinned (.plain (OpenSpec.upto fnExactReadFractionsSpec)) fnExactReadFractionsUptoCard
end Rows
end Go.Proofs.YtpjojckfnkomfaaDoor
