/- ClientKnown: merged by merge.py. -/
import Derived.Test.YtdaojlipkffigaaGreatDoorCards
import Derived.Test.YtdaojlipkffigaaGreatDoorTie
import Derived.Test.YtdaojlipkffigaaGreatDoorCK33
import Derived.WalkKit
import Derived.ProofKit
import Derived.OpenShut
import Derived.ShutString
import Derived.ChangeOld
import Derived.Below
import Derived.Deep.DeepHandedRow
import Derived.LaidHandle
import Derived.Deep.DeepWitnessRowRef
import Derived.SevenTiedAt
namespace Go.Proofs.YtdaojlipkffigaaGreatDoor.clientKnown
open Go.ChangeShapes Go.WideShapes Go.ChangeAt Go.RowKit
set_option linter.unusedVariables false
theorem own : ownKnob Tryz.prog.godebug = none := by kernel_rfl
theorem laidOut : laidOutB Tryz.prog = true := by kernel_rfl
set_option maxRecDepth 100000 in
theorem contract (H : Type) (enc : TypeId × Value → H) (W : World) (base : Nat) (args : Array Value) (ds gs : List (DataW H)) (before : List MemPlace)
    (hval : ∀ (j : Nat) t v, Tryz.f4.params[j]? = some t → args[j]? = some v → Value.okWide Tryz.prog W .any base t v)
    (hW : DataW.Whole enc Tryz.prog Tryz.f4.params.toList Rows.clientKnownSpec.vars false W args.toList ds gs before) (hL : laidMetH Tryz.prog Rows.clientKnownRow.laid W) :
    Calls Tryz.prog 4 args W fun e W' => ∃ v, e = .returned v ∧ Rows.clientKnownSpec.post enc Tryz.prog Tryz.f4 false true false false W args v W' := by
  have hW' := hW
  obtain ⟨p, q, hA0, hV, rfl, hfz, hnd⟩ := hW
  have hA : DataW.TrodAll enc Tryz.prog W 0 (fun _ => true) true Tryz.f4.params.toList args.toList ds p := hA0
  rw [Tryz.params4] at hA hval
  obtain ⟨rfl, rfl, rfl⟩ := trodAll_none hA
  obtain ⟨rfl, rfl⟩ := trodVars_none hV
  clear hA0
  simp only [List.append_nil] at hW'
  refine (clientKnown_walk W.heap.size W (envC_of hL)).mono fun e W' ⟨he, hb⟩ => ?_
  subst he
  have bel : Below W.heap.size W W' := hb.later
  exact ⟨_, rfl, _, _, _, [], _, [], hW', trodAll_mk1 (shut_bool Tryz.underlying4 _), trodAll_mk0, rfl, bel.frame _, fun h => by cases h⟩
noncomputable def low : Nat := (World.holding Tryz.prog default ⟨#[], #[], []⟩).heap.size
noncomputable def laidWorld (os : Os) : World :=
  let w0 := World.holding Tryz.prog os ⟨#[.cells #[.int .u64 128, .int .u8 0, .int .i64 0, .int .u64 256, .int .u8 204, .int .i64 1, .int .u64 65536, .int .u8 205, .int .i64 2, .int .u64 4294967296, .int .u8 206, .int .i64 4, .int .u64 0, .int .u8 207, .int .i64 8] 291,
    .cells #[.int .u64 256, .int .u8 196, .int .i64 1, .int .u64 65536, .int .u8 197, .int .i64 2] 291,
    .cells #[.int .u64 32, .int .u8 160, .int .i64 0, .int .u64 256, .int .u8 217, .int .i64 1, .int .u64 65536, .int .u8 218, .int .i64 2] 291,
    .cells #[.int .u64 16, .int .u8 144, .int .i64 0, .int .u64 65536, .int .u8 220, .int .i64 2] 291,
    .cells #[.int .u64 16, .int .u8 128, .int .i64 0, .int .u64 65536, .int .u8 222, .int .i64 2] 291,
    .cells #[.int .u8 0, .int .u8 127, .int .i64 0, .int .u64 0, .int .u8 204, .int .u8 204, .int .i64 1, .int .u64 128, .int .u8 205, .int .u8 205, .int .i64 2, .int .u64 256, .int .u8 206, .int .u8 206, .int .i64 4, .int .u64 65536, .int .u8 207, .int .u8 207, .int .i64 8, .int .u64 4294967296] 300,
    .cells #[.int .u8 196, .int .u8 196, .int .i64 1, .int .u64 0, .int .u8 197, .int .u8 197, .int .i64 2, .int .u64 256] 300,
    .cells #[.int .u8 160, .int .u8 191, .int .i64 0, .int .u64 0, .int .u8 217, .int .u8 217, .int .i64 1, .int .u64 32, .int .u8 218, .int .u8 218, .int .i64 2, .int .u64 256] 300,
    .cells #[.int .u8 144, .int .u8 159, .int .i64 0, .int .u64 0, .int .u8 220, .int .u8 220, .int .i64 2, .int .u64 16] 300,
    .cells #[.int .u8 128, .int .u8 143, .int .i64 0, .int .u64 0, .int .u8 222, .int .u8 222, .int .i64 2, .int .u64 16] 300], #[], []⟩
  { w0 with heap := (((((((w0.heap.modify 1 fun
      | .cells _ t frozen => .cells #[.slice (some ⟨low + 0, 0, none⟩) 5 5, .slice (some ⟨low + 1, 0, none⟩) 2 2, .slice (some ⟨low + 2, 0, none⟩) 3 3, .slice (some ⟨low + 3, 0, none⟩) 2 2, .slice (some ⟨low + 4, 0, none⟩) 2 2] t frozen
      | o => o).modify 0 fun
      | .cells _ t frozen => .cells #[.slice (some ⟨low + 5, 0, none⟩) 5 5] t frozen
      | o => o).modify 2 fun
      | .cells _ t frozen => .cells #[.slice (some ⟨low + 6, 0, none⟩) 2 2] t frozen
      | o => o).modify 4 fun
      | .cells _ t frozen => .cells #[.slice (some ⟨low + 7, 0, none⟩) 3 3] t frozen
      | o => o).modify 6 fun
      | .cells _ t frozen => .cells #[.slice (some ⟨low + 8, 0, none⟩) 2 2] t frozen
      | o => o).modify 3 fun
      | .cells _ t frozen => .cells #[.slice (some ⟨low + 9, 0, none⟩) 2 2] t frozen
      | o => o).modify 5 fun
      | .cells _ t frozen => .cells #[.iface 360 (.agg #[.pointer (some ⟨7, 70, none⟩)])] t frozen
      | o => o) }
theorem laid_met (os : Os) : laidMetH Tryz.prog Rows.clientKnownRow.laid ((laidWorld os).forCall (fun _ _ => 0) ⟨#[], #[], []⟩).memory :=
  laidMetH_of_parts (laidMet_of_run' 8 (by kernel_rfl) (by kernel_rfl)) (by kernel_rfl)
theorem reads (os : Os) {H : Type} (enc : TypeId × Value → H) : ∃ places, DataW.whole enc Tryz.prog ((laidWorld os).forCall (fun _ _ => 0) ⟨#[], #[], []⟩).memory Tryz.f4.params.toList Rows.clientKnownSpec.vars false (#[] : Array Value).toList 8 = some ([], [], places) :=
  ⟨[], by kernel_rfl⟩
theorem hv (os : Os) : ((laidWorld os).forCall (fun _ _ => 0) ⟨#[], #[], []⟩).variablesRefB Tryz.checked.prog = true := by kernel_rfl
theorem hr (os : Os) : (((laidWorld os).forCall (fun _ _ => 0) ⟨#[], #[], []⟩).heap.toList.drop Tryz.checked.prog.globals.size).take ((begin Tryz.checked.prog (fun _ _ => 0) default).world.heap.size - Tryz.checked.prog.globals.size) = (begin Tryz.checked.prog (fun _ _ => 0) default).world.heap.toList.drop Tryz.checked.prog.globals.size := by kernel_rfl
theorem hok (os : Os) : Input.okWideB Tryz.checked.prog ((laidWorld os).forCall (fun _ _ => 0) ⟨#[], #[], []⟩) 4 ⟨#[], #[], []⟩ = true := by kernel_rfl
theorem ni : Tryz.checked.prog.inits.idxOf? 4 = none := by kernel_rfl
theorem hc {H : Type} : Rows.clientKnownRow.domain.all (PathCond.test (H := H) Tryz.prog ⟨Tryz.f4.params.toList, [], (OpenSpec.ofChange Rows.clientKnownSpec).bare.plain.varTypes Tryz.prog, []⟩) = true := by kernel_rfl
theorem hsz (os : Os) {H : Type} (enc : TypeId × Value → H) : (OpenSpec.ofChange Rows.clientKnownSpec).bare.sizedB enc Tryz.prog Tryz.f4 false ((laidWorld os).forCall (fun _ _ => 0) ⟨#[], #[], []⟩).memory #[] 8 = true := by kernel_rfl
theorem prow (os : Os) {H : Type} (enc : TypeId × Value → H) : (OpenSpec.ofChange Rows.clientKnownSpec).preRow enc Tryz.prog Tryz.f4 Rows.clientKnownRow.domain false Rows.clientKnownRow.laid ((laidWorld os).forCall (fun _ _ => 0) ⟨#[], #[], []⟩).memory #[] := by
  obtain ⟨places, hx⟩ := reads os enc
  exact OpenSpec.preRow_of_cond 8 hx hc (fun k hk => by cases hk) (hsz os enc) (laid_met os)
theorem wit (os : Os) {H : Type} (enc : TypeId × Value → H) : ∃ (w : World) (tape : Tape) (i : Input), w.os = os ∧ (w.forCall tape i).Shaped Tryz.checked.prog ∧ i.vars = [] ∧ Input.okWide Tryz.checked.prog (w.forCall tape i) .any w.heap.size 4 i ∧
      (OpenSpec.ofChange Rows.clientKnownSpec).preRow enc Tryz.checked.prog Tryz.f4 Rows.clientKnownRow.domain false Rows.clientKnownRow.laid (w.forCall tape i).memory i.args ∧ ({ modest := false } : Assume).holds Tryz.checked.prog (lone (Frame.enter Tryz.checked.prog 4 i.args .normal) [] (w.forCall tape i)) :=
  witness_row_atRef (enc := enc) (C := Tryz.checked) false (laidWorld os) #[] rfl (hv os) (hr os) (hok os) (prow os enc)
set_option maxRecDepth 100000 in
theorem lifted (os : Os) (started : os.Started) (H : Type) (enc : TypeId × Value → H) (F : Stop.Interp) :
    ReturnsInHanded {} Tryz.checked os 4 .any ((OpenSpec.ofChange Rows.clientKnownSpec).preRow enc Tryz.prog Tryz.f4 Rows.clientKnownRow.domain false Rows.clientKnownRow.laid) (((OpenSpec.ofChange Rows.clientKnownSpec).at F).post enc Tryz.prog Tryz.f4 false true false false) := by
  refine returnsInHanded_of_row (C := Tryz.checked) (s := OpenSpec.ofChange Rows.clientKnownSpec) own started ni Tryz.func4 (wit os enc) ?_
  intro W base args ds gs before hval hW _ _ _ hL _ _
  exact contract H enc W base args ds gs before hval hW hL
theorem k10 : (Rows.clientKnownRow.inPlace == Tryz.pinned.checked.prog.inPlace 4) = true := by kernel_rfl
theorem k11 : (Rows.clientKnownRow.unfollowed == Tryz.pinned.checked.prog.unfollowed 4) = true := by kernel_rfl
theorem k12 : (Rows.clientKnownRow.recurses == Tryz.pinned.checked.prog.recurses 4) = true := by kernel_rfl
theorem k13 : (Rows.clientKnownRow.named == Tryz.pinned.checked.prog.varsNamed 4) = true := by kernel_rfl
theorem and_i {a b : Bool} (h1 : a = true) (h2 : b = true) : (a && b) = true := by rw [h1, h2]; rfl
set_option maxRecDepth 100000 in
theorem closed : joinedFacts Tryz.pinned.checked.prog 4 Tryz.f4 (OpenSpec.ofChange Rows.clientKnownSpec).bare Rows.clientKnownRow = true := by
  unfold joinedFacts
  iterate 19 (refine and_i ?_ (by kernel_rfl))
  refine and_i (and_i (and_i (and_i ?_ k10) k11) k12) k13
  kernel_rfl
theorem said : Rows.ClientKnownSaid :=
  OpenClaim.holds_of_cond 4 Tryz.f4 rfl rfl rfl rfl rfl rfl rfl ⟨rfl, rfl, rfl, rfl, rfl⟩ rfl rfl rfl rfl rfl (by kernel_rfl) Tryz.func4 closed
    (of_decide_eq_true (by kernel_rfl)) (by unfold Func.isWrapper; first | (rw [if_pos (by decide +kernel)]; kernel_rfl) | (rw [if_neg (by decide +kernel)]; exact ⟨rfl, rfl⟩))
    (fun os started H enc _ F => by rw [OpenClaim.pre_eq_preRow]; exact lifted os started H enc F)
theorem plain (f : FuncId) (fn : Func) (hf : Tryz.pinned.checked.prog.funcNamed "sextant/sextantlaw28.ClientKnown" = some f) (hfn : Tryz.pinned.checked.prog.funcs[f]? = some fn) :
    true = Tryz.pinned.checked.prog.looks [] ∧ ∀ (j : Nat) t, fn.params[j]? = some t → Tryz.pinned.checked.prog.wantsStandIn t = false := by
  obtain rfl : f = 4 := Option.some.inj ((show Tryz.prog.funcNamed "sextant/sextantlaw28.ClientKnown" = some 4 by kernel_rfl).symm.trans hf) |>.symm
  obtain rfl : fn = Tryz.f4 := (Option.some.inj (Tryz.func4.symm.trans hfn)).symm
  refine ⟨by kernel_rfl, fun j t ht => ?_⟩
  rw [Tryz.params4] at ht
  cases ht
theorem card : Rows.ClientKnownCardSaid :=
  Claim7.holds_tied_plain_at .later [] _ _ _ _ said (fun _ h => by cases h) (by kernel_rfl) (fun _ h => by cases h) clientKnown_row_tie rfl ⟨rfl, rfl⟩ (by kernel_rfl) rfl plain (by kernel_rfl)
end Go.Proofs.YtdaojlipkffigaaGreatDoor.clientKnown
