/-
  DERIVED. GIVEN WITH THE SEED: THE CARDS: each row of YtcaimmhhklcpoaaGreatDoorRows.lean that lists a variable, with what it lists TIED to the program's text (the seventh form; the later family's looks); each row that meets fmt, with fmt's text TOLD by the authors' own Lean function (tested against real Go, not proved from fmt's source: count such statements apart). THE CARD IS WHAT COUNTS. Prove the row's statement (the work); the ties are given (YtcaimmhhklcpoaaGreatDoorTie.lean); close each card by the builder's one call (the guide's Derived/Test/ToyasCard.lean, 'card_holds'). Laid BY PROGRAM, IN A SANDBOX (cutbox-door.mjs). By AI agents, Wed Nov 11 2026. No macro, syntax, notation, axiom, sorry.
-/
import Derived.Test.YtcaimmhhklcpoaaGreatDoorRows
import GoSem.ClaimSeven
namespace Go.Proofs.YtcaimmhhklcpoaaGreatDoor
namespace Rows

/-- THE TIED CARD OF 'sextantlaw31.LookRows'. -/
def lookRowsCard : Claim7 := { stood := { row := lookRowsRow, standIns := [], harness := (true, "fca83ca287f249bbc1d54c91143541e9c4f82e3de007183f83970fb203032167"), looks := true }, kinds := [], alts := [], laidByText := true, laidKinds := [.data, .handle, .widerDeep, .widerDeep, .widerDeep, .widerDeep, .widerDeep], laidTests := true, laidLooks := .later }
def LookRowsCardSaid : Prop := Claim7.holds Tryz.pinned (.plain (OpenSpec.ofChange lookRowsSpec)) lookRowsCard

/-- THE TIED CARD OF 'sextantlaw31.LookKnown'. -/
def lookKnownCard : Claim7 := { stood := { row := lookKnownRow, standIns := [], harness := (true, "fca83ca287f249bbc1d54c91143541e9c4f82e3de007183f83970fb203032167"), looks := true }, kinds := [], alts := [], laidByText := true, laidKinds := [.data, .handle, .widerDeep, .widerDeep, .widerDeep, .widerDeep, .widerDeep], laidTests := true, laidLooks := .later }
def LookKnownCardSaid : Prop := Claim7.holds Tryz.pinned (.plain (OpenSpec.ofChange lookKnownSpec)) lookKnownCard

/-- THE SECOND FORM's CARD OF 'sextantlaw31.LookRows'. -/
def lookRowsUptoCard : Claim7 := { stood := { row := lookRowsUptoRow, standIns := [], harness := (true, "fca83ca287f249bbc1d54c91143541e9c4f82e3de007183f83970fb203032167"), looks := true }, kinds := [], alts := [], laidByText := true, laidKinds := [.data, .handle, .widerDeep, .widerDeep, .widerDeep, .widerDeep, .widerDeep], laidTests := true, laidLooks := .later }
def LookRowsUptoCardSaid : Prop := Claim7.holds Tryz.pinned (.plain (OpenSpec.upto lookRowsSpec)) lookRowsUptoCard

/-- THE SECOND FORM's CARD OF 'sextantlaw31.LookKnown'. -/
def lookKnownUptoCard : Claim7 := { stood := { row := lookKnownUptoRow, standIns := [], harness := (true, "fca83ca287f249bbc1d54c91143541e9c4f82e3de007183f83970fb203032167"), looks := true }, kinds := [], alts := [], laidByText := true, laidKinds := [.data, .handle, .widerDeep, .widerDeep, .widerDeep, .widerDeep, .widerDeep], laidTests := true, laidLooks := .later }
def LookKnownUptoCardSaid : Prop := Claim7.holds Tryz.pinned (.plain (OpenSpec.upto lookKnownSpec)) lookKnownUptoCard
end Rows
end Go.Proofs.YtcaimmhhklcpoaaGreatDoor
