/-
  DERIVED. GIVEN WITH THE SEED: THE CARDS: each row of YtdaojlipkffigaaGreatDoorRows.lean that lists a variable, with what it lists TIED to the program's text (the seventh form; the later family's looks); each row that meets fmt, with fmt's text TOLD by the authors' own Lean function (tested against real Go, not proved from fmt's source: count such statements apart). THE CARD IS WHAT COUNTS. Prove the row's statement (the work); the ties are given (YtdaojlipkffigaaGreatDoorTie.lean); close each card by the builder's one call (the guide's Derived/Test/ToyasCard.lean, 'card_holds'). Laid BY PROGRAM, IN A SANDBOX (cutbox-door.mjs). By AI agents, Wed Nov 11 2026. No macro, syntax, notation, axiom, sorry.
-/
import Derived.Test.YtdaojlipkffigaaGreatDoorRows
import GoSem.ClaimSeven
namespace Go.Proofs.YtdaojlipkffigaaGreatDoor
namespace Rows

/-- THE TIED CARD OF 'sextantlaw28.ClientBegins'. -/
def clientBeginsCard : Claim7 := { stood := { row := clientBeginsRow, standIns := [], harness := (true, "14b451c68f8353ee8a3a59762449b225f2f07990a1483e48b99e05883ab28ba6"), looks := true }, kinds := [], alts := [], laidByText := true, laidKinds := [.data, .handle, .widerDeep, .widerDeep, .widerDeep, .widerDeep, .widerDeep], laidTests := true, laidLooks := .later }
def ClientBeginsCardSaid : Prop := Claim7.holds Tryz.pinned (.plain (OpenSpec.ofChange clientBeginsSpec)) clientBeginsCard

/-- THE TIED CARD OF 'sextantlaw28.ClientKnown'. -/
def clientKnownCard : Claim7 := { stood := { row := clientKnownRow, standIns := [], harness := (true, "14b451c68f8353ee8a3a59762449b225f2f07990a1483e48b99e05883ab28ba6"), looks := true }, kinds := [], alts := [], laidByText := true, laidKinds := [.data, .handle, .widerDeep, .widerDeep, .widerDeep, .widerDeep, .widerDeep], laidTests := true, laidLooks := .later }
def ClientKnownCardSaid : Prop := Claim7.holds Tryz.pinned (.plain (OpenSpec.ofChange clientKnownSpec)) clientKnownCard

/-- THE SECOND FORM's CARD OF 'sextantlaw28.ClientBegins'. -/
def clientBeginsUptoCard : Claim7 := { stood := { row := clientBeginsUptoRow, standIns := [], harness := (true, "14b451c68f8353ee8a3a59762449b225f2f07990a1483e48b99e05883ab28ba6"), looks := true }, kinds := [], alts := [], laidByText := true, laidKinds := [.data, .handle, .widerDeep, .widerDeep, .widerDeep, .widerDeep, .widerDeep], laidTests := true, laidLooks := .later }
def ClientBeginsUptoCardSaid : Prop := Claim7.holds Tryz.pinned (.plain (OpenSpec.upto clientBeginsSpec)) clientBeginsUptoCard

/-- THE SECOND FORM's CARD OF 'sextantlaw28.ClientKnown'. -/
def clientKnownUptoCard : Claim7 := { stood := { row := clientKnownUptoRow, standIns := [], harness := (true, "14b451c68f8353ee8a3a59762449b225f2f07990a1483e48b99e05883ab28ba6"), looks := true }, kinds := [], alts := [], laidByText := true, laidKinds := [.data, .handle, .widerDeep, .widerDeep, .widerDeep, .widerDeep, .widerDeep], laidTests := true, laidLooks := .later }
def ClientKnownUptoCardSaid : Prop := Claim7.holds Tryz.pinned (.plain (OpenSpec.upto clientKnownSpec)) clientKnownUptoCard
end Rows
end Go.Proofs.YtdaojlipkffigaaGreatDoor
