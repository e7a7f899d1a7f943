/-
  No cell of these rows narrows 'for every input' (looked for: loops, veiled, ifaces, maps, wideKeys, modest, calm, conditions, laid).
  DERIVED. THE GIVEN ROWS OF THIS SEAT. 5 by the template 'for every input the law returns true; each argument reads behind the call as it read before'; 0 by the template 'total and deterministic' (their statements: YtccnjmeakbnngaaTotals.lean).
  GIVEN WITH THE SEED: the statements are not yours to turn. If you find one false, say at which input.
  Laid BY PROGRAM, IN A SANDBOX (cutbox-rows.mjs): the forced cells as the released guide's own fill.sh prints them over the translation d402f54a19ab5603… (all of the seat's roots in one cut). By AI agents, Wed Nov 11 2026. No macro, syntax, notation, axiom, sorry.
-/
import Derived.Test.YtccnjmeakbnngaaChecked
import GoSem.Claim
import GoSem.ClaimJoined
import GoSem.ClaimMapViews
import Derived.JoinedTies
import Derived.KernelRfl
namespace Go.Proofs.Ytccnjmeakbnngaa
/- THE CELL 'sum', in the pinned program and in every row, IS THE sha256 OF THE DUMP (.gsa) THAT YtccnjmeakbnngaaProg.lean LOADS. Nothing in Lean hashes anything: it is a label: what it is worth is what the hold of that sum in a sandbox is worth. -/
noncomputable def Try.pinned : Pinned := { name := "ytccnjmeakbnngaa", sum := "d402f54a19ab5603559ceeea41643f46bb3ac588e7fcc7ee79c3ab8579efb31a", checked := Try.checked }
namespace Rows
def none {H : Type} : Left H := { results := [], args := [] }

/-- 'sextantlaw16.Log2Tells': WHATEVER THE INPUT: true; the input reads as it did. -/
def log2TellsSpec : ChangeSpec := { name := "log2Tells", fn := fun _ => fun
  | [d] => { results := [.lit (.bool true)], args := [d] }
  | _ => none }
def log2TellsRow : OpenClaim := { program := "ytccnjmeakbnngaa", sum := "d402f54a19ab5603559ceeea41643f46bb3ac588e7fcc7ee79c3ab8579efb31a", func := "sextant/sextantlaw16.Log2Tells", spec := "log2Tells", inPlace := ["math/bits.Add64"], unfollowed := true, recurses := true, apart := false }
def Log2TellsSaid : Prop := log2TellsRow.holds Try.pinned (OpenSpec.ofChange log2TellsSpec)

/-- ITS FALSE NEIGHBOUR: 'it returns false'. Refute it at one input. -/
def log2TellsWrong : ChangeSpec := { name := "log2Tells", fn := fun _ => fun
  | [d] => { results := [.lit (.bool false)], args := [d] }
  | _ => none }
def Log2TellsWrongFalsely : Prop := log2TellsRow.holds Try.pinned (OpenSpec.ofChange log2TellsWrong)

/-- 'sextantlaw16.Log2Bounds': WHATEVER THE INPUT: true; the input reads as it did. -/
def log2BoundsSpec : ChangeSpec := { name := "log2Bounds", fn := fun _ => fun
  | [d1, d2] => { results := [.lit (.bool true)], args := [d1, d2] }
  | _ => none }
def log2BoundsRow : OpenClaim := { program := "ytccnjmeakbnngaa", sum := "d402f54a19ab5603559ceeea41643f46bb3ac588e7fcc7ee79c3ab8579efb31a", func := "sextant/sextantlaw16.Log2Bounds", spec := "log2Bounds", inPlace := ["math/bits.Add64"], unfollowed := true, recurses := true, apart := false }
def Log2BoundsSaid : Prop := log2BoundsRow.holds Try.pinned (OpenSpec.ofChange log2BoundsSpec)

/-- ITS FALSE NEIGHBOUR: 'it returns false'. Refute it at one input. -/
def log2BoundsWrong : ChangeSpec := { name := "log2Bounds", fn := fun _ => fun
  | [d1, d2] => { results := [.lit (.bool false)], args := [d1, d2] }
  | _ => none }
def Log2BoundsWrongFalsely : Prop := log2BoundsRow.holds Try.pinned (OpenSpec.ofChange log2BoundsWrong)

/-- 'sextantlaw16.Log2Rises': WHATEVER THE INPUT: true; the input reads as it did. -/
def log2RisesSpec : ChangeSpec := { name := "log2Rises", fn := fun _ => fun
  | [d1, d2, d3] => { results := [.lit (.bool true)], args := [d1, d2, d3] }
  | _ => none }
def log2RisesRow : OpenClaim := { program := "ytccnjmeakbnngaa", sum := "d402f54a19ab5603559ceeea41643f46bb3ac588e7fcc7ee79c3ab8579efb31a", func := "sextant/sextantlaw16.Log2Rises", spec := "log2Rises", inPlace := ["math/bits.Add64"], unfollowed := true, recurses := true, apart := false }
def Log2RisesSaid : Prop := log2RisesRow.holds Try.pinned (OpenSpec.ofChange log2RisesSpec)

/-- ITS FALSE NEIGHBOUR: 'it returns false'. Refute it at one input. -/
def log2RisesWrong : ChangeSpec := { name := "log2Rises", fn := fun _ => fun
  | [d1, d2, d3] => { results := [.lit (.bool false)], args := [d1, d2, d3] }
  | _ => none }
def Log2RisesWrongFalsely : Prop := log2RisesRow.holds Try.pinned (OpenSpec.ofChange log2RisesWrong)

/-- 'sextantlaw16.Log2Powers': WHATEVER THE INPUT: true; the input reads as it did. -/
def log2PowersSpec : ChangeSpec := { name := "log2Powers", fn := fun _ => fun
  | [d1, d2] => { results := [.lit (.bool true)], args := [d1, d2] }
  | _ => none }
def log2PowersRow : OpenClaim := { program := "ytccnjmeakbnngaa", sum := "d402f54a19ab5603559ceeea41643f46bb3ac588e7fcc7ee79c3ab8579efb31a", func := "sextant/sextantlaw16.Log2Powers", spec := "log2Powers", inPlace := ["math/bits.Add64"], unfollowed := true, recurses := true, apart := false }
def Log2PowersSaid : Prop := log2PowersRow.holds Try.pinned (OpenSpec.ofChange log2PowersSpec)

/-- ITS FALSE NEIGHBOUR: 'it returns false'. Refute it at one input. -/
def log2PowersWrong : ChangeSpec := { name := "log2Powers", fn := fun _ => fun
  | [d1, d2] => { results := [.lit (.bool false)], args := [d1, d2] }
  | _ => none }
def Log2PowersWrongFalsely : Prop := log2PowersRow.holds Try.pinned (OpenSpec.ofChange log2PowersWrong)

/-- 'sextantlaw16.Log2Known': WHATEVER THE INPUT: true; the input reads as it did. -/
def log2KnownSpec : ChangeSpec := { name := "log2Known", fn := fun _ => fun
  | [] => { results := [.lit (.bool true)], args := [] }
  | _ => none }
def log2KnownRow : OpenClaim := { program := "ytccnjmeakbnngaa", sum := "d402f54a19ab5603559ceeea41643f46bb3ac588e7fcc7ee79c3ab8579efb31a", func := "sextant/sextantlaw16.Log2Known", spec := "log2Known", inPlace := ["math/bits.Add64"], unfollowed := true, recurses := true, apart := false }
def Log2KnownSaid : Prop := log2KnownRow.holds Try.pinned (OpenSpec.ofChange log2KnownSpec)

/-- ITS FALSE NEIGHBOUR: 'it returns false'. Refute it at one input. -/
def log2KnownWrong : ChangeSpec := { name := "log2Known", fn := fun _ => fun
  | [] => { results := [.lit (.bool false)], args := [] }
  | _ => none }
def Log2KnownWrongFalsely : Prop := log2KnownRow.holds Try.pinned (OpenSpec.ofChange log2KnownWrong)

/- THE SECOND FORM. 'bulk': how many values and letters a reading holds, each counted each time it is reached (what is shared counts as often as it is met; a slice's spare places count too). A statement '..UptoSaid' is the law's where the arguments, and the package variables that the reading takes, are together of bulk at most 1048576: NARROWER than '..Said'. Prove '..Said' where nothing that the law and all that it calls make is longer than what came in: it says more and counts as full. Else prove '..UptoSaid'. A law counts once. -/
mutual
def uptoBulk {H : Type} : DataW H → Nat
  | .lit (.string bytes) => bytes.length + 1
  | .lit _ => 1
  | .nil => 1
  | .ptr d => uptoBulk d + 1
  | .slice elems spare => uptoBulkAll elems + uptoBulkAll spare + 1
  | .agg parts => uptoBulkAll parts + 1
  | .iface _ d => uptoBulk d + 1
  | .map entries => uptoBulkEntries entries + 1
  | .held _ => 1
def uptoBulkAll {H : Type} : List (DataW H) → Nat
  | [] => 0
  | d :: r => uptoBulk d + uptoBulkAll r
def uptoBulkEntries {H : Type} : List (Lit × DataW H) → Nat
  | [] => 0
  | x :: r => uptoBulkEntry x + uptoBulkEntries r
def uptoBulkEntry {H : Type} : Lit × DataW H → Nat
  | (.string bytes, d) => bytes.length + uptoBulk d + 1
  | (_, d) => uptoBulk d + 1
 end
def uptoSmall : (H : Type) → List (DataW H) → Bool := fun _ ds => decide (uptoBulkAll ds ≤ 1048576)
def OpenSpec.upto (s : _root_.Go.ChangeSpec) : _root_.Go.OpenSpec := { _root_.Go.OpenSpec.ofChange s with cond := some uptoSmall }

/-- 'sextantlaw16.Log2Tells', WHERE WHAT IT READS IS OF BULK AT MOST 1048576: true; the input reads as it did. -/
def log2TellsUptoRow : OpenClaim := { program := "ytccnjmeakbnngaa", sum := "d402f54a19ab5603559ceeea41643f46bb3ac588e7fcc7ee79c3ab8579efb31a", func := "sextant/sextantlaw16.Log2Tells", spec := "log2Tells", inPlace := ["math/bits.Add64"], unfollowed := true, recurses := true, apart := false, narrowed := true }
def Log2TellsUptoSaid : Prop := log2TellsUptoRow.holds Try.pinned (OpenSpec.upto log2TellsSpec)

/-- 'sextantlaw16.Log2Bounds', WHERE WHAT IT READS IS OF BULK AT MOST 1048576: true; the input reads as it did. -/
def log2BoundsUptoRow : OpenClaim := { program := "ytccnjmeakbnngaa", sum := "d402f54a19ab5603559ceeea41643f46bb3ac588e7fcc7ee79c3ab8579efb31a", func := "sextant/sextantlaw16.Log2Bounds", spec := "log2Bounds", inPlace := ["math/bits.Add64"], unfollowed := true, recurses := true, apart := false, narrowed := true }
def Log2BoundsUptoSaid : Prop := log2BoundsUptoRow.holds Try.pinned (OpenSpec.upto log2BoundsSpec)

/-- 'sextantlaw16.Log2Rises', WHERE WHAT IT READS IS OF BULK AT MOST 1048576: true; the input reads as it did. -/
def log2RisesUptoRow : OpenClaim := { program := "ytccnjmeakbnngaa", sum := "d402f54a19ab5603559ceeea41643f46bb3ac588e7fcc7ee79c3ab8579efb31a", func := "sextant/sextantlaw16.Log2Rises", spec := "log2Rises", inPlace := ["math/bits.Add64"], unfollowed := true, recurses := true, apart := false, narrowed := true }
def Log2RisesUptoSaid : Prop := log2RisesUptoRow.holds Try.pinned (OpenSpec.upto log2RisesSpec)

/-- 'sextantlaw16.Log2Powers', WHERE WHAT IT READS IS OF BULK AT MOST 1048576: true; the input reads as it did. -/
def log2PowersUptoRow : OpenClaim := { program := "ytccnjmeakbnngaa", sum := "d402f54a19ab5603559ceeea41643f46bb3ac588e7fcc7ee79c3ab8579efb31a", func := "sextant/sextantlaw16.Log2Powers", spec := "log2Powers", inPlace := ["math/bits.Add64"], unfollowed := true, recurses := true, apart := false, narrowed := true }
def Log2PowersUptoSaid : Prop := log2PowersUptoRow.holds Try.pinned (OpenSpec.upto log2PowersSpec)

/-- 'sextantlaw16.Log2Known', WHERE WHAT IT READS IS OF BULK AT MOST 1048576: true; the input reads as it did. -/
def log2KnownUptoRow : OpenClaim := { program := "ytccnjmeakbnngaa", sum := "d402f54a19ab5603559ceeea41643f46bb3ac588e7fcc7ee79c3ab8579efb31a", func := "sextant/sextantlaw16.Log2Known", spec := "log2Known", inPlace := ["math/bits.Add64"], unfollowed := true, recurses := true, apart := false, narrowed := true }
def Log2KnownUptoSaid : Prop := log2KnownUptoRow.holds Try.pinned (OpenSpec.upto log2KnownSpec)

end Rows
end Go.Proofs.Ytccnjmeakbnngaa
