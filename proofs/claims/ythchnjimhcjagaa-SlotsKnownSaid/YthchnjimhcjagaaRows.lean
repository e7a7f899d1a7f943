/-
  No cell of these rows narrows 'for every input' (looked for: loops, veiled, ifaces, maps, wideKeys, modest, calm, conditions, laid).
  DERIVED. THE GIVEN ROWS OF THIS SEAT. 4 by the template 'for every input the law returns true; each argument reads behind the call as it read before'; 0 by the template 'total and deterministic' (their statements: YthchnjimhcjagaaTotals.lean).
  GIVEN WITH THE SEED: the statements are not yours to turn. If you find one false, say at which input.
  Laid BY PROGRAM, IN A SANDBOX (cutbox-rows.mjs): the forced cells as the released guide's own fill.sh prints them over the translation a68d5f8627a17b08… (all of the seat's roots in one cut). By AI agents, Wed Nov 11 2026. No macro, syntax, notation, axiom, sorry.
-/
import Derived.Test.YthchnjimhcjagaaChecked
import GoSem.Claim
import GoSem.ClaimJoined
import GoSem.ClaimMapViews
import Derived.JoinedTies
import Derived.KernelRfl
namespace Go.Proofs.Ythchnjimhcjagaa
/- THE CELL 'sum', in the pinned program and in every row, IS THE sha256 OF THE DUMP (.gsa) THAT YthchnjimhcjagaaProg.lean LOADS. Nothing in Lean hashes anything: it is a label: what it is worth is what the hold of that sum in a sandbox is worth. -/
noncomputable def Try.pinned : Pinned := { name := "ythchnjimhcjagaa", sum := "a68d5f8627a17b0824604e31311d83402a897adaae92ccb343790bb640b223b5", checked := Try.checked }
namespace Rows
def none {H : Type} : Left H := { results := [], args := [] }

/-- 'sextantlaw18.SlotsTell': WHATEVER THE INPUT: true; the input reads as it did. -/
def slotsTellSpec : ChangeSpec := { name := "slotsTell", fn := fun _ => fun
  | [d1, d2, d3] => { results := [.lit (.bool true)], args := [d1, d2, d3] }
  | _ => none }
def slotsTellRow : OpenClaim := { program := "ythchnjimhcjagaa", sum := "a68d5f8627a17b0824604e31311d83402a897adaae92ccb343790bb640b223b5", func := "sextant/sextantlaw18.SlotsTell", spec := "slotsTell", inPlace := ["math/bits.Add64"], unfollowed := true, recurses := true, apart := false }
def SlotsTellSaid : Prop := slotsTellRow.holds Try.pinned (OpenSpec.ofChange slotsTellSpec)

/-- ITS FALSE NEIGHBOUR: 'it returns false'. Refute it at one input. -/
def slotsTellWrong : ChangeSpec := { name := "slotsTell", fn := fun _ => fun
  | [d1, d2, d3] => { results := [.lit (.bool false)], args := [d1, d2, d3] }
  | _ => none }
def SlotsTellWrongFalsely : Prop := slotsTellRow.holds Try.pinned (OpenSpec.ofChange slotsTellWrong)

/-- 'sextantlaw18.SlotsShare': WHATEVER THE INPUT: true; the input reads as it did. -/
def slotsShareSpec : ChangeSpec := { name := "slotsShare", fn := fun _ => fun
  | [d] => { results := [.lit (.bool true)], args := [d] }
  | _ => none }
def slotsShareRow : OpenClaim := { program := "ythchnjimhcjagaa", sum := "a68d5f8627a17b0824604e31311d83402a897adaae92ccb343790bb640b223b5", func := "sextant/sextantlaw18.SlotsShare", spec := "slotsShare", inPlace := ["math/bits.Add64"], unfollowed := true, recurses := true, apart := false }
def SlotsShareSaid : Prop := slotsShareRow.holds Try.pinned (OpenSpec.ofChange slotsShareSpec)

/-- ITS FALSE NEIGHBOUR: 'it returns false'. Refute it at one input. -/
def slotsShareWrong : ChangeSpec := { name := "slotsShare", fn := fun _ => fun
  | [d] => { results := [.lit (.bool false)], args := [d] }
  | _ => none }
def SlotsShareWrongFalsely : Prop := slotsShareRow.holds Try.pinned (OpenSpec.ofChange slotsShareWrong)

/-- 'sextantlaw18.SlotsSums': WHATEVER THE INPUT: true; the input reads as it did. -/
def slotsSumsSpec : ChangeSpec := { name := "slotsSums", fn := fun _ => fun
  | [d] => { results := [.lit (.bool true)], args := [d] }
  | _ => none }
def slotsSumsRow : OpenClaim := { program := "ythchnjimhcjagaa", sum := "a68d5f8627a17b0824604e31311d83402a897adaae92ccb343790bb640b223b5", func := "sextant/sextantlaw18.SlotsSums", spec := "slotsSums", inPlace := ["math/bits.Add64"], unfollowed := true, recurses := true, apart := false }
def SlotsSumsSaid : Prop := slotsSumsRow.holds Try.pinned (OpenSpec.ofChange slotsSumsSpec)

/-- ITS FALSE NEIGHBOUR: 'it returns false'. Refute it at one input. -/
def slotsSumsWrong : ChangeSpec := { name := "slotsSums", fn := fun _ => fun
  | [d] => { results := [.lit (.bool false)], args := [d] }
  | _ => none }
def SlotsSumsWrongFalsely : Prop := slotsSumsRow.holds Try.pinned (OpenSpec.ofChange slotsSumsWrong)

/-- 'sextantlaw18.SlotsKnown': WHATEVER THE INPUT: true; the input reads as it did. -/
def slotsKnownSpec : ChangeSpec := { name := "slotsKnown", fn := fun _ => fun
  | [] => { results := [.lit (.bool true)], args := [] }
  | _ => none }
def slotsKnownRow : OpenClaim := { program := "ythchnjimhcjagaa", sum := "a68d5f8627a17b0824604e31311d83402a897adaae92ccb343790bb640b223b5", func := "sextant/sextantlaw18.SlotsKnown", spec := "slotsKnown", inPlace := ["math/bits.Add64"], unfollowed := true, recurses := true, apart := false }
def SlotsKnownSaid : Prop := slotsKnownRow.holds Try.pinned (OpenSpec.ofChange slotsKnownSpec)

/-- ITS FALSE NEIGHBOUR: 'it returns false'. Refute it at one input. -/
def slotsKnownWrong : ChangeSpec := { name := "slotsKnown", fn := fun _ => fun
  | [] => { results := [.lit (.bool false)], args := [] }
  | _ => none }
def SlotsKnownWrongFalsely : Prop := slotsKnownRow.holds Try.pinned (OpenSpec.ofChange slotsKnownWrong)

/- THE SECOND FORM. 'bulk': how many values and letters a reading holds, each counted each time it is reached (what is shared counts as often as it is met; a slice's spare places count too). A statement '..UptoSaid' is the law's where the arguments, and the package variables that the reading takes, are together of bulk at most 1048576: NARROWER than '..Said'. Prove '..Said' where nothing that the law and all that it calls make is longer than what came in: it says more and counts as full. Else prove '..UptoSaid'. A law counts once. -/
mutual
def uptoBulk {H : Type} : DataW H → Nat
  | .lit (.string bytes) => bytes.length + 1
  | .lit _ => 1
  | .nil => 1
  | .ptr d => uptoBulk d + 1
  | .slice elems spare => uptoBulkAll elems + uptoBulkAll spare + 1
  | .agg parts => uptoBulkAll parts + 1
  | .iface _ d => uptoBulk d + 1
  | .map entries => uptoBulkEntries entries + 1
  | .held _ => 1
def uptoBulkAll {H : Type} : List (DataW H) → Nat
  | [] => 0
  | d :: r => uptoBulk d + uptoBulkAll r
def uptoBulkEntries {H : Type} : List (Lit × DataW H) → Nat
  | [] => 0
  | x :: r => uptoBulkEntry x + uptoBulkEntries r
def uptoBulkEntry {H : Type} : Lit × DataW H → Nat
  | (.string bytes, d) => bytes.length + uptoBulk d + 1
  | (_, d) => uptoBulk d + 1
 end
def uptoSmall : (H : Type) → List (DataW H) → Bool := fun _ ds => decide (uptoBulkAll ds ≤ 1048576)
def OpenSpec.upto (s : _root_.Go.ChangeSpec) : _root_.Go.OpenSpec := { _root_.Go.OpenSpec.ofChange s with cond := some uptoSmall }

/-- 'sextantlaw18.SlotsTell', WHERE WHAT IT READS IS OF BULK AT MOST 1048576: true; the input reads as it did. -/
def slotsTellUptoRow : OpenClaim := { program := "ythchnjimhcjagaa", sum := "a68d5f8627a17b0824604e31311d83402a897adaae92ccb343790bb640b223b5", func := "sextant/sextantlaw18.SlotsTell", spec := "slotsTell", inPlace := ["math/bits.Add64"], unfollowed := true, recurses := true, apart := false, narrowed := true }
def SlotsTellUptoSaid : Prop := slotsTellUptoRow.holds Try.pinned (OpenSpec.upto slotsTellSpec)

/-- 'sextantlaw18.SlotsShare', WHERE WHAT IT READS IS OF BULK AT MOST 1048576: true; the input reads as it did. -/
def slotsShareUptoRow : OpenClaim := { program := "ythchnjimhcjagaa", sum := "a68d5f8627a17b0824604e31311d83402a897adaae92ccb343790bb640b223b5", func := "sextant/sextantlaw18.SlotsShare", spec := "slotsShare", inPlace := ["math/bits.Add64"], unfollowed := true, recurses := true, apart := false, narrowed := true }
def SlotsShareUptoSaid : Prop := slotsShareUptoRow.holds Try.pinned (OpenSpec.upto slotsShareSpec)

/-- 'sextantlaw18.SlotsSums', WHERE WHAT IT READS IS OF BULK AT MOST 1048576: true; the input reads as it did. -/
def slotsSumsUptoRow : OpenClaim := { program := "ythchnjimhcjagaa", sum := "a68d5f8627a17b0824604e31311d83402a897adaae92ccb343790bb640b223b5", func := "sextant/sextantlaw18.SlotsSums", spec := "slotsSums", inPlace := ["math/bits.Add64"], unfollowed := true, recurses := true, apart := false, narrowed := true }
def SlotsSumsUptoSaid : Prop := slotsSumsUptoRow.holds Try.pinned (OpenSpec.upto slotsSumsSpec)

/-- 'sextantlaw18.SlotsKnown', WHERE WHAT IT READS IS OF BULK AT MOST 1048576: true; the input reads as it did. -/
def slotsKnownUptoRow : OpenClaim := { program := "ythchnjimhcjagaa", sum := "a68d5f8627a17b0824604e31311d83402a897adaae92ccb343790bb640b223b5", func := "sextant/sextantlaw18.SlotsKnown", spec := "slotsKnown", inPlace := ["math/bits.Add64"], unfollowed := true, recurses := true, apart := false, narrowed := true }
def SlotsKnownUptoSaid : Prop := slotsKnownUptoRow.holds Try.pinned (OpenSpec.upto slotsKnownSpec)

end Rows
end Go.Proofs.Ythchnjimhcjagaa
