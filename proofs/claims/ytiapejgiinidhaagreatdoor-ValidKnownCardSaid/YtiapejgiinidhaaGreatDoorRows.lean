/-
  NARROWER THAN 'FOR EVERY INPUT', by the rows' own cells (each row's printed sentence says how): ValidKnown: laid.
  DERIVED. THE GIVEN ROWS OF THIS SEAT. 1 by the template 'for every input the law returns true; each argument reads behind the call as it read before'; 0 by the template 'total and deterministic' (their statements: YtiapejgiinidhaaGreatDoorTotals.lean).
  GIVEN WITH THE SEED: the statements are not yours to turn. If you find one false, say at which input.
  Laid BY PROGRAM, IN A SANDBOX (cutbox-rows.mjs): the forced cells as the released guide's own fill.sh prints them over the translation a0362aa146ccd7e0… (all of the seat's roots in one cut). By AI agents, Wed Nov 11 2026. No macro, syntax, notation, axiom, sorry.
-/
import Derived.Test.YtiapejgiinidhaaGreatDoorChecked
import GoSem.Claim
import GoSem.ClaimJoined
import GoSem.ClaimMapViews
import Derived.JoinedTies
import Derived.KernelRfl
namespace Go.Proofs.YtiapejgiinidhaaGreatDoor
/- THE CELL 'sum', in the pinned program and in every row, IS THE sha256 OF THE DUMP (.gsa) THAT YtiapejgiinidhaaGreatDoorProg.lean LOADS. Nothing in Lean hashes anything: it is a label: what it is worth is what the hold of that sum in a sandbox is worth. -/
noncomputable def Tryz.pinned : Pinned := { name := "ytiapejgiinidhaagreatdoor", sum := "a0362aa146ccd7e0b85843f60678df974757d63c8dffedbd672f44d36b9c89ed", checked := Tryz.checked }
namespace Rows
def none {H : Type} : Left H := { results := [], args := [] }

/- WHAT THE LISTED PACKAGE-LEVEL VARIABLES READ AS WHEN THE CALL BEGINS. Each datum BY PROGRAM (the guide's laid-datum.mjs) off the statement by which the dump's own 'gosem.cut.vars' lays the variable. In a bare row this is a premise. The card (YtiapejgiinidhaaGreatDoorCards.lean) ties it to the program's text. -/
def laid_sextant_pack_rows {H : Type} : DataW H := .agg [.slice [.agg [.lit (.int .u64 128), .lit (.int .u8 0), .lit (.int .i64 0)], .agg [.lit (.int .u64 256), .lit (.int .u8 204), .lit (.int .i64 1)], .agg [.lit (.int .u64 65536), .lit (.int .u8 205), .lit (.int .i64 2)], .agg [.lit (.int .u64 4294967296), .lit (.int .u8 206), .lit (.int .i64 4)], .agg [.lit (.int .u64 0), .lit (.int .u8 207), .lit (.int .i64 8)]] [], .slice [.agg [.lit (.int .u64 256), .lit (.int .u8 196), .lit (.int .i64 1)], .agg [.lit (.int .u64 65536), .lit (.int .u8 197), .lit (.int .i64 2)]] [], .slice [.agg [.lit (.int .u64 32), .lit (.int .u8 160), .lit (.int .i64 0)], .agg [.lit (.int .u64 256), .lit (.int .u8 217), .lit (.int .i64 1)], .agg [.lit (.int .u64 65536), .lit (.int .u8 218), .lit (.int .i64 2)]] [], .slice [.agg [.lit (.int .u64 16), .lit (.int .u8 144), .lit (.int .i64 0)], .agg [.lit (.int .u64 65536), .lit (.int .u8 220), .lit (.int .i64 2)]] [], .slice [.agg [.lit (.int .u64 16), .lit (.int .u8 128), .lit (.int .i64 0)], .agg [.lit (.int .u64 65536), .lit (.int .u8 222), .lit (.int .i64 2)]] []]
def laid_errors_errorType {H : Type} : DataW H := .iface "internal/reflectlite.rtype" (.agg [.ptr (.lit (.string [101, 114, 114, 111, 114]))])
def laid_sextant_unpack_nums {H : Type} : DataW H := .slice [.agg [.lit (.int .u8 0), .lit (.int .u8 127), .lit (.int .i64 0), .lit (.int .u64 0)], .agg [.lit (.int .u8 204), .lit (.int .u8 204), .lit (.int .i64 1), .lit (.int .u64 128)], .agg [.lit (.int .u8 205), .lit (.int .u8 205), .lit (.int .i64 2), .lit (.int .u64 256)], .agg [.lit (.int .u8 206), .lit (.int .u8 206), .lit (.int .i64 4), .lit (.int .u64 65536)], .agg [.lit (.int .u8 207), .lit (.int .u8 207), .lit (.int .i64 8), .lit (.int .u64 4294967296)]] []
def laid_sextant_unpack_bins {H : Type} : DataW H := .slice [.agg [.lit (.int .u8 196), .lit (.int .u8 196), .lit (.int .i64 1), .lit (.int .u64 0)], .agg [.lit (.int .u8 197), .lit (.int .u8 197), .lit (.int .i64 2), .lit (.int .u64 256)]] []
def laid_sextant_unpack_strs {H : Type} : DataW H := .slice [.agg [.lit (.int .u8 160), .lit (.int .u8 191), .lit (.int .i64 0), .lit (.int .u64 0)], .agg [.lit (.int .u8 217), .lit (.int .u8 217), .lit (.int .i64 1), .lit (.int .u64 32)], .agg [.lit (.int .u8 218), .lit (.int .u8 218), .lit (.int .i64 2), .lit (.int .u64 256)]] []
def laid_sextant_unpack_lists {H : Type} : DataW H := .slice [.agg [.lit (.int .u8 144), .lit (.int .u8 159), .lit (.int .i64 0), .lit (.int .u64 0)], .agg [.lit (.int .u8 220), .lit (.int .u8 220), .lit (.int .i64 2), .lit (.int .u64 16)]] []
def laid_sextant_unpack_pairs {H : Type} : DataW H := .slice [.agg [.lit (.int .u8 128), .lit (.int .u8 143), .lit (.int .i64 0), .lit (.int .u64 0)], .agg [.lit (.int .u8 222), .lit (.int .u8 222), .lit (.int .i64 2), .lit (.int .u64 16)]] []

/-- 'sextantlaw22.ValidKnown': WHATEVER THE INPUT: true; the input reads as it did. -/
def validKnownSpec : ChangeSpec := { name := "validKnown", fn := fun _ => fun
  | [] => { results := [.lit (.bool true)], args := [] }
  | _ => none }
def validKnownRow : OpenClaim := { program := "ytiapejgiinidhaagreatdoor", sum := "a0362aa146ccd7e0b85843f60678df974757d63c8dffedbd672f44d36b9c89ed", func := "sextant/sextantlaw22.ValidKnown", spec := "validKnown", inPlace := ["internal/reflectlite.TypeOf", "internal/reflectlite.ValueOf", "(internal/reflectlite.Value).Type", "(internal/reflectlite.Value).IsNil", "(internal/reflectlite.Value).Elem", "(internal/reflectlite.Value).Set", "math/bits.Add64", "internal/abi.NoEscape"], unfollowed := true, recurses := true, named := ["sextant/unpack.pairs", "sextant/unpack.strs", "errors.errorType", "sextant/pack.rows", "sextant/unpack.lists", "sextant/unpack.bins", "sextant/unpack.nums"], apart := false, laid := [("sextant/pack.rows", laid_sextant_pack_rows), ("errors.errorType", laid_errors_errorType), ("sextant/unpack.nums", laid_sextant_unpack_nums), ("sextant/unpack.bins", laid_sextant_unpack_bins), ("sextant/unpack.strs", laid_sextant_unpack_strs), ("sextant/unpack.lists", laid_sextant_unpack_lists), ("sextant/unpack.pairs", laid_sextant_unpack_pairs)] }
def ValidKnownSaid : Prop := validKnownRow.holds Tryz.pinned (OpenSpec.ofChange validKnownSpec)

/-- ITS FALSE NEIGHBOUR: 'it returns false'. Refute it at one input. -/
def validKnownWrong : ChangeSpec := { name := "validKnown", fn := fun _ => fun
  | [] => { results := [.lit (.bool false)], args := [] }
  | _ => none }
def ValidKnownWrongFalsely : Prop := validKnownRow.holds Tryz.pinned (OpenSpec.ofChange validKnownWrong)

/- THE SECOND FORM. 'bulk': how many values and letters a reading holds, each counted each time it is reached (what is shared counts as often as it is met; a slice's spare places count too). A statement '..UptoSaid' is the law's where the arguments, and the package variables that the reading takes, are together of bulk at most 1048576: NARROWER than '..Said'. Prove '..Said' where nothing that the law and all that it calls make is longer than what came in: it says more and counts as full. Else prove '..UptoSaid'. A law counts once. -/
mutual
def uptoBulk {H : Type} : DataW H → Nat
  | .lit (.string bytes) => bytes.length + 1
  | .lit _ => 1
  | .nil => 1
  | .ptr d => uptoBulk d + 1
  | .slice elems spare => uptoBulkAll elems + uptoBulkAll spare + 1
  | .agg parts => uptoBulkAll parts + 1
  | .iface _ d => uptoBulk d + 1
  | .map entries => uptoBulkEntries entries + 1
  | .held _ => 1
def uptoBulkAll {H : Type} : List (DataW H) → Nat
  | [] => 0
  | d :: r => uptoBulk d + uptoBulkAll r
def uptoBulkEntries {H : Type} : List (Lit × DataW H) → Nat
  | [] => 0
  | x :: r => uptoBulkEntry x + uptoBulkEntries r
def uptoBulkEntry {H : Type} : Lit × DataW H → Nat
  | (.string bytes, d) => bytes.length + uptoBulk d + 1
  | (_, d) => uptoBulk d + 1
 end
def uptoSmall : (H : Type) → List (DataW H) → Bool := fun _ ds => decide (uptoBulkAll ds ≤ 1048576)
def OpenSpec.upto (s : _root_.Go.ChangeSpec) : _root_.Go.OpenSpec := { _root_.Go.OpenSpec.ofChange s with cond := some uptoSmall }

/-- 'sextantlaw22.ValidKnown', WHERE WHAT IT READS IS OF BULK AT MOST 1048576: true; the input reads as it did. -/
def validKnownUptoRow : OpenClaim := { program := "ytiapejgiinidhaagreatdoor", sum := "a0362aa146ccd7e0b85843f60678df974757d63c8dffedbd672f44d36b9c89ed", func := "sextant/sextantlaw22.ValidKnown", spec := "validKnown", inPlace := ["internal/reflectlite.TypeOf", "internal/reflectlite.ValueOf", "(internal/reflectlite.Value).Type", "(internal/reflectlite.Value).IsNil", "(internal/reflectlite.Value).Elem", "(internal/reflectlite.Value).Set", "math/bits.Add64", "internal/abi.NoEscape"], unfollowed := true, recurses := true, named := ["sextant/unpack.pairs", "sextant/unpack.strs", "errors.errorType", "sextant/pack.rows", "sextant/unpack.lists", "sextant/unpack.bins", "sextant/unpack.nums"], apart := false, laid := [("sextant/pack.rows", laid_sextant_pack_rows), ("errors.errorType", laid_errors_errorType), ("sextant/unpack.nums", laid_sextant_unpack_nums), ("sextant/unpack.bins", laid_sextant_unpack_bins), ("sextant/unpack.strs", laid_sextant_unpack_strs), ("sextant/unpack.lists", laid_sextant_unpack_lists), ("sextant/unpack.pairs", laid_sextant_unpack_pairs)], narrowed := true }
def ValidKnownUptoSaid : Prop := validKnownUptoRow.holds Tryz.pinned (OpenSpec.upto validKnownSpec)

end Rows
end Go.Proofs.YtiapejgiinidhaaGreatDoor
