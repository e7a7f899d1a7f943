/-
  No cell of these rows narrows 'for every input' (looked for: loops, veiled, ifaces, maps, wideKeys, modest, calm, conditions, laid).
  DERIVED. THE GIVEN ROWS OF THIS SEAT. 7 by the template 'for every input the law returns true; each argument reads behind the call as it read before'; 0 by the template 'total and deterministic' (their statements: YtnnpfmelfhgdcaaTotals.lean).
  GIVEN WITH THE SEED: the statements are not yours to turn. If you find one false, say at which input.
  Laid BY PROGRAM, IN A SANDBOX (cutbox-rows.mjs): the forced cells as the released guide's own fill.sh prints them over the translation b115a62b6dbd9df3… (all of the seat's roots in one cut). By AI agents, Wed Nov 11 2026. No macro, syntax, notation, axiom, sorry.
-/
import Derived.Test.YtnnpfmelfhgdcaaChecked
import GoSem.Claim
import GoSem.ClaimJoined
import GoSem.ClaimMapViews
import Derived.JoinedTies
import Derived.KernelRfl
namespace Go.Proofs.Ytnnpfmelfhgdcaa
/- THE CELL 'sum', in the pinned program and in every row, IS THE sha256 OF THE DUMP (.gsa) THAT YtnnpfmelfhgdcaaProg.lean LOADS. Nothing in Lean hashes anything: it is a label: what it is worth is what the hold of that sum in a sandbox is worth. -/
noncomputable def Try.pinned : Pinned := { name := "ytnnpfmelfhgdcaa", sum := "b115a62b6dbd9df3b5c5c2a18c1d860c4c92a969684cb8f86866790cbdee160b", checked := Try.checked }
namespace Rows
def none {H : Type} : Left H := { results := [], args := [] }

/-- 'sextantlaw17.CountPasses': WHATEVER THE INPUT: true; the input reads as it did. -/
def countPassesSpec : ChangeSpec := { name := "countPasses", fn := fun _ => fun
  | [d1, d2, d3] => { results := [.lit (.bool true)], args := [d1, d2, d3] }
  | _ => none }
def countPassesRow : OpenClaim := { program := "ytnnpfmelfhgdcaa", sum := "b115a62b6dbd9df3b5c5c2a18c1d860c4c92a969684cb8f86866790cbdee160b", func := "sextant/sextantlaw17.CountPasses", spec := "countPasses", inPlace := ["math/bits.Add64"], unfollowed := true, recurses := true, apart := false }
def CountPassesSaid : Prop := countPassesRow.holds Try.pinned (OpenSpec.ofChange countPassesSpec)

/-- ITS FALSE NEIGHBOUR: 'it returns false'. Refute it at one input. -/
def countPassesWrong : ChangeSpec := { name := "countPasses", fn := fun _ => fun
  | [d1, d2, d3] => { results := [.lit (.bool false)], args := [d1, d2, d3] }
  | _ => none }
def CountPassesWrongFalsely : Prop := countPassesRow.holds Try.pinned (OpenSpec.ofChange countPassesWrong)

/-- 'sextantlaw17.CountLeast': WHATEVER THE INPUT: true; the input reads as it did. -/
def countLeastSpec : ChangeSpec := { name := "countLeast", fn := fun _ => fun
  | [d1, d2] => { results := [.lit (.bool true)], args := [d1, d2] }
  | _ => none }
def countLeastRow : OpenClaim := { program := "ytnnpfmelfhgdcaa", sum := "b115a62b6dbd9df3b5c5c2a18c1d860c4c92a969684cb8f86866790cbdee160b", func := "sextant/sextantlaw17.CountLeast", spec := "countLeast", inPlace := ["math/bits.Add64"], unfollowed := true, recurses := true, apart := false }
def CountLeastSaid : Prop := countLeastRow.holds Try.pinned (OpenSpec.ofChange countLeastSpec)

/-- ITS FALSE NEIGHBOUR: 'it returns false'. Refute it at one input. -/
def countLeastWrong : ChangeSpec := { name := "countLeast", fn := fun _ => fun
  | [d1, d2] => { results := [.lit (.bool false)], args := [d1, d2] }
  | _ => none }
def CountLeastWrongFalsely : Prop := countLeastRow.holds Try.pinned (OpenSpec.ofChange countLeastWrong)

/-- 'sextantlaw17.CountSound': WHATEVER THE INPUT: true; the input reads as it did. -/
def countSoundSpec : ChangeSpec := { name := "countSound", fn := fun _ => fun
  | [d1, d2, d3] => { results := [.lit (.bool true)], args := [d1, d2, d3] }
  | _ => none }
def countSoundRow : OpenClaim := { program := "ytnnpfmelfhgdcaa", sum := "b115a62b6dbd9df3b5c5c2a18c1d860c4c92a969684cb8f86866790cbdee160b", func := "sextant/sextantlaw17.CountSound", spec := "countSound", inPlace := ["math/bits.Add64"], unfollowed := true, recurses := true, apart := false }
def CountSoundSaid : Prop := countSoundRow.holds Try.pinned (OpenSpec.ofChange countSoundSpec)

/-- ITS FALSE NEIGHBOUR: 'it returns false'. Refute it at one input. -/
def countSoundWrong : ChangeSpec := { name := "countSound", fn := fun _ => fun
  | [d1, d2, d3] => { results := [.lit (.bool false)], args := [d1, d2, d3] }
  | _ => none }
def CountSoundWrongFalsely : Prop := countSoundRow.holds Try.pinned (OpenSpec.ofChange countSoundWrong)

/-- 'sextantlaw17.CountRises': WHATEVER THE INPUT: true; the input reads as it did. -/
def countRisesSpec : ChangeSpec := { name := "countRises", fn := fun _ => fun
  | [d1, d2, d3] => { results := [.lit (.bool true)], args := [d1, d2, d3] }
  | _ => none }
def countRisesRow : OpenClaim := { program := "ytnnpfmelfhgdcaa", sum := "b115a62b6dbd9df3b5c5c2a18c1d860c4c92a969684cb8f86866790cbdee160b", func := "sextant/sextantlaw17.CountRises", spec := "countRises", inPlace := ["math/bits.Add64"], unfollowed := true, recurses := true, apart := false }
def CountRisesSaid : Prop := countRisesRow.holds Try.pinned (OpenSpec.ofChange countRisesSpec)

/-- ITS FALSE NEIGHBOUR: 'it returns false'. Refute it at one input. -/
def countRisesWrong : ChangeSpec := { name := "countRises", fn := fun _ => fun
  | [d1, d2, d3] => { results := [.lit (.bool false)], args := [d1, d2, d3] }
  | _ => none }
def CountRisesWrongFalsely : Prop := countRisesRow.holds Try.pinned (OpenSpec.ofChange countRisesWrong)

/-- 'sextantlaw17.CountExact': WHATEVER THE INPUT: true; the input reads as it did. -/
def countExactSpec : ChangeSpec := { name := "countExact", fn := fun _ => fun
  | [d1, d2] => { results := [.lit (.bool true)], args := [d1, d2] }
  | _ => none }
def countExactRow : OpenClaim := { program := "ytnnpfmelfhgdcaa", sum := "b115a62b6dbd9df3b5c5c2a18c1d860c4c92a969684cb8f86866790cbdee160b", func := "sextant/sextantlaw17.CountExact", spec := "countExact", inPlace := ["math/bits.Add64"], unfollowed := true, recurses := true, apart := false }
def CountExactSaid : Prop := countExactRow.holds Try.pinned (OpenSpec.ofChange countExactSpec)

/-- ITS FALSE NEIGHBOUR: 'it returns false'. Refute it at one input. -/
def countExactWrong : ChangeSpec := { name := "countExact", fn := fun _ => fun
  | [d1, d2] => { results := [.lit (.bool false)], args := [d1, d2] }
  | _ => none }
def CountExactWrongFalsely : Prop := countExactRow.holds Try.pinned (OpenSpec.ofChange countExactWrong)

/-- 'sextantlaw17.CountKnown': WHATEVER THE INPUT: true; the input reads as it did. -/
def countKnownSpec : ChangeSpec := { name := "countKnown", fn := fun _ => fun
  | [] => { results := [.lit (.bool true)], args := [] }
  | _ => none }
def countKnownRow : OpenClaim := { program := "ytnnpfmelfhgdcaa", sum := "b115a62b6dbd9df3b5c5c2a18c1d860c4c92a969684cb8f86866790cbdee160b", func := "sextant/sextantlaw17.CountKnown", spec := "countKnown", inPlace := ["math/bits.Add64"], unfollowed := true, recurses := true, apart := false }
def CountKnownSaid : Prop := countKnownRow.holds Try.pinned (OpenSpec.ofChange countKnownSpec)

/-- ITS FALSE NEIGHBOUR: 'it returns false'. Refute it at one input. -/
def countKnownWrong : ChangeSpec := { name := "countKnown", fn := fun _ => fun
  | [] => { results := [.lit (.bool false)], args := [] }
  | _ => none }
def CountKnownWrongFalsely : Prop := countKnownRow.holds Try.pinned (OpenSpec.ofChange countKnownWrong)

/-- 'sextantlaw17.CountSlack': WHATEVER THE INPUT: true; the input reads as it did. -/
def countSlackSpec : ChangeSpec := { name := "countSlack", fn := fun _ => fun
  | [d1, d2, d3] => { results := [.lit (.bool true)], args := [d1, d2, d3] }
  | _ => none }
def countSlackRow : OpenClaim := { program := "ytnnpfmelfhgdcaa", sum := "b115a62b6dbd9df3b5c5c2a18c1d860c4c92a969684cb8f86866790cbdee160b", func := "sextant/sextantlaw17.CountSlack", spec := "countSlack", inPlace := ["math/bits.Add64"], unfollowed := true, recurses := true, apart := false }
def CountSlackSaid : Prop := countSlackRow.holds Try.pinned (OpenSpec.ofChange countSlackSpec)

/-- ITS FALSE NEIGHBOUR: 'it returns false'. Refute it at one input. -/
def countSlackWrong : ChangeSpec := { name := "countSlack", fn := fun _ => fun
  | [d1, d2, d3] => { results := [.lit (.bool false)], args := [d1, d2, d3] }
  | _ => none }
def CountSlackWrongFalsely : Prop := countSlackRow.holds Try.pinned (OpenSpec.ofChange countSlackWrong)

/- THE SECOND FORM. 'bulk': how many values and letters a reading holds, each counted each time it is reached (what is shared counts as often as it is met; a slice's spare places count too). A statement '..UptoSaid' is the law's where the arguments, and the package variables that the reading takes, are together of bulk at most 1048576: NARROWER than '..Said'. Prove '..Said' where nothing that the law and all that it calls make is longer than what came in: it says more and counts as full. Else prove '..UptoSaid'. A law counts once. -/
mutual
def uptoBulk {H : Type} : DataW H → Nat
  | .lit (.string bytes) => bytes.length + 1
  | .lit _ => 1
  | .nil => 1
  | .ptr d => uptoBulk d + 1
  | .slice elems spare => uptoBulkAll elems + uptoBulkAll spare + 1
  | .agg parts => uptoBulkAll parts + 1
  | .iface _ d => uptoBulk d + 1
  | .map entries => uptoBulkEntries entries + 1
  | .held _ => 1
def uptoBulkAll {H : Type} : List (DataW H) → Nat
  | [] => 0
  | d :: r => uptoBulk d + uptoBulkAll r
def uptoBulkEntries {H : Type} : List (Lit × DataW H) → Nat
  | [] => 0
  | x :: r => uptoBulkEntry x + uptoBulkEntries r
def uptoBulkEntry {H : Type} : Lit × DataW H → Nat
  | (.string bytes, d) => bytes.length + uptoBulk d + 1
  | (_, d) => uptoBulk d + 1
 end
def uptoSmall : (H : Type) → List (DataW H) → Bool := fun _ ds => decide (uptoBulkAll ds ≤ 1048576)
def OpenSpec.upto (s : _root_.Go.ChangeSpec) : _root_.Go.OpenSpec := { _root_.Go.OpenSpec.ofChange s with cond := some uptoSmall }

/-- 'sextantlaw17.CountPasses', WHERE WHAT IT READS IS OF BULK AT MOST 1048576: true; the input reads as it did. -/
def countPassesUptoRow : OpenClaim := { program := "ytnnpfmelfhgdcaa", sum := "b115a62b6dbd9df3b5c5c2a18c1d860c4c92a969684cb8f86866790cbdee160b", func := "sextant/sextantlaw17.CountPasses", spec := "countPasses", inPlace := ["math/bits.Add64"], unfollowed := true, recurses := true, apart := false, narrowed := true }
def CountPassesUptoSaid : Prop := countPassesUptoRow.holds Try.pinned (OpenSpec.upto countPassesSpec)

/-- 'sextantlaw17.CountLeast', WHERE WHAT IT READS IS OF BULK AT MOST 1048576: true; the input reads as it did. -/
def countLeastUptoRow : OpenClaim := { program := "ytnnpfmelfhgdcaa", sum := "b115a62b6dbd9df3b5c5c2a18c1d860c4c92a969684cb8f86866790cbdee160b", func := "sextant/sextantlaw17.CountLeast", spec := "countLeast", inPlace := ["math/bits.Add64"], unfollowed := true, recurses := true, apart := false, narrowed := true }
def CountLeastUptoSaid : Prop := countLeastUptoRow.holds Try.pinned (OpenSpec.upto countLeastSpec)

/-- 'sextantlaw17.CountSound', WHERE WHAT IT READS IS OF BULK AT MOST 1048576: true; the input reads as it did. -/
def countSoundUptoRow : OpenClaim := { program := "ytnnpfmelfhgdcaa", sum := "b115a62b6dbd9df3b5c5c2a18c1d860c4c92a969684cb8f86866790cbdee160b", func := "sextant/sextantlaw17.CountSound", spec := "countSound", inPlace := ["math/bits.Add64"], unfollowed := true, recurses := true, apart := false, narrowed := true }
def CountSoundUptoSaid : Prop := countSoundUptoRow.holds Try.pinned (OpenSpec.upto countSoundSpec)

/-- 'sextantlaw17.CountRises', WHERE WHAT IT READS IS OF BULK AT MOST 1048576: true; the input reads as it did. -/
def countRisesUptoRow : OpenClaim := { program := "ytnnpfmelfhgdcaa", sum := "b115a62b6dbd9df3b5c5c2a18c1d860c4c92a969684cb8f86866790cbdee160b", func := "sextant/sextantlaw17.CountRises", spec := "countRises", inPlace := ["math/bits.Add64"], unfollowed := true, recurses := true, apart := false, narrowed := true }
def CountRisesUptoSaid : Prop := countRisesUptoRow.holds Try.pinned (OpenSpec.upto countRisesSpec)

/-- 'sextantlaw17.CountExact', WHERE WHAT IT READS IS OF BULK AT MOST 1048576: true; the input reads as it did. -/
def countExactUptoRow : OpenClaim := { program := "ytnnpfmelfhgdcaa", sum := "b115a62b6dbd9df3b5c5c2a18c1d860c4c92a969684cb8f86866790cbdee160b", func := "sextant/sextantlaw17.CountExact", spec := "countExact", inPlace := ["math/bits.Add64"], unfollowed := true, recurses := true, apart := false, narrowed := true }
def CountExactUptoSaid : Prop := countExactUptoRow.holds Try.pinned (OpenSpec.upto countExactSpec)

/-- 'sextantlaw17.CountKnown', WHERE WHAT IT READS IS OF BULK AT MOST 1048576: true; the input reads as it did. -/
def countKnownUptoRow : OpenClaim := { program := "ytnnpfmelfhgdcaa", sum := "b115a62b6dbd9df3b5c5c2a18c1d860c4c92a969684cb8f86866790cbdee160b", func := "sextant/sextantlaw17.CountKnown", spec := "countKnown", inPlace := ["math/bits.Add64"], unfollowed := true, recurses := true, apart := false, narrowed := true }
def CountKnownUptoSaid : Prop := countKnownUptoRow.holds Try.pinned (OpenSpec.upto countKnownSpec)

/-- 'sextantlaw17.CountSlack', WHERE WHAT IT READS IS OF BULK AT MOST 1048576: true; the input reads as it did. -/
def countSlackUptoRow : OpenClaim := { program := "ytnnpfmelfhgdcaa", sum := "b115a62b6dbd9df3b5c5c2a18c1d860c4c92a969684cb8f86866790cbdee160b", func := "sextant/sextantlaw17.CountSlack", spec := "countSlack", inPlace := ["math/bits.Add64"], unfollowed := true, recurses := true, apart := false, narrowed := true }
def CountSlackUptoSaid : Prop := countSlackUptoRow.holds Try.pinned (OpenSpec.upto countSlackSpec)

end Rows
end Go.Proofs.Ytnnpfmelfhgdcaa
