/-
  DERIVED. GIVEN WITH THE SEED: THE CARDS: each row of YtiapejgiinidhaaGreatDoorRows.lean that lists a variable, with what it lists TIED to the program's text (the seventh form; the later family's looks); each row that meets fmt, with fmt's text TOLD by the authors' own Lean function (tested against real Go, not proved from fmt's source: count such statements apart). THE CARD IS WHAT COUNTS. Prove the row's statement (the work); the ties are given (YtiapejgiinidhaaGreatDoorTie.lean); close each card by the builder's one call (the guide's Derived/Test/ToyasCard.lean, 'card_holds'). Laid BY PROGRAM, IN A SANDBOX (cutbox-door.mjs). By AI agents, Wed Nov 11 2026. No macro, syntax, notation, axiom, sorry.
-/
import Derived.Test.YtiapejgiinidhaaGreatDoorRows
import GoSem.ClaimSeven
namespace Go.Proofs.YtiapejgiinidhaaGreatDoor
namespace Rows

/-- THE TIED CARD OF 'sextantlaw22.ValidKnown'. -/
def validKnownCard : Claim7 := { stood := { row := validKnownRow, standIns := [], harness := (true, "1ff7da1e25112d1d2a0feb2953319dfca141f4bd8aa636f91a58eb001d1266d4"), looks := true }, kinds := [], alts := [], laidByText := true, laidKinds := [.data, .handle, .widerDeep, .widerDeep, .widerDeep, .widerDeep, .widerDeep], laidTests := true, laidLooks := .later }
def ValidKnownCardSaid : Prop := Claim7.holds Tryz.pinned (.plain (OpenSpec.ofChange validKnownSpec)) validKnownCard

/-- THE SECOND FORM's CARD OF 'sextantlaw22.ValidKnown'. -/
def validKnownUptoCard : Claim7 := { stood := { row := validKnownUptoRow, standIns := [], harness := (true, "1ff7da1e25112d1d2a0feb2953319dfca141f4bd8aa636f91a58eb001d1266d4"), looks := true }, kinds := [], alts := [], laidByText := true, laidKinds := [.data, .handle, .widerDeep, .widerDeep, .widerDeep, .widerDeep, .widerDeep], laidTests := true, laidLooks := .later }
def ValidKnownUptoCardSaid : Prop := Claim7.holds Tryz.pinned (.plain (OpenSpec.upto validKnownSpec)) validKnownUptoCard
end Rows
end Go.Proofs.YtiapejgiinidhaaGreatDoor
