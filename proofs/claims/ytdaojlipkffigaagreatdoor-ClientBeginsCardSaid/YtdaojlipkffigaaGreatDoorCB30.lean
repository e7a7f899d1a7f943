/- ClientBegins: merged by merge.py. -/
import Derived.Test.YtdaojlipkffigaaGreatDoorCards
import Derived.Test.YtdaojlipkffigaaGreatDoorTie
import Derived.Test.YtdaojlipkffigaaGreatDoorCB29
import Derived.WalkKit
import Derived.ProofKit
import Derived.OpenShut
import Derived.ShutString
import Derived.ChangeOld
import Derived.Below
import Derived.Deep.DeepHandedRow
import Derived.LaidHandle
import Derived.Deep.DeepWitnessRowRef
import Derived.SevenTiedAt
namespace Go.Proofs.YtdaojlipkffigaaGreatDoor.clientBegins
open Go.ChangeShapes Go.WideShapes Go.ChangeAt Go.RowKit
set_option linter.unusedVariables false
theorem own : ownKnob Tryz.prog.godebug = none := by kernel_rfl
theorem laidOut : laidOutB Tryz.prog = true := by kernel_rfl
set_option maxRecDepth 100000 in
theorem contract (H : Type) (enc : TypeId × Value → H) (W : World) (base : Nat) (args : Array Value) (ds gs : List (DataW H)) (before : List MemPlace)
    (hval : ∀ (j : Nat) t v, Tryz.f3.params[j]? = some t → args[j]? = some v → Value.okWide Tryz.prog W .any base t v)
    (hW : DataW.Whole enc Tryz.prog Tryz.f3.params.toList Rows.clientBeginsSpec.vars false W args.toList ds gs before) (hL : laidMetH Tryz.prog Rows.clientBeginsRow.laid W) :
    Calls Tryz.prog 3 args W fun e W' => ∃ v, e = .returned v ∧ Rows.clientBeginsSpec.post enc Tryz.prog Tryz.f3 false true false false W args v W' := by
  have hW' := hW
  obtain ⟨p, q, hA0, hV, rfl, hfz, hnd⟩ := hW
  have hA : DataW.TrodAll enc Tryz.prog W 0 (fun _ => true) true Tryz.f3.params.toList args.toList ds p := hA0
  rw [Tryz.params3] at hA hval
  obtain ⟨v0, vs0, d0, ds0, p0, q0, hargs, rfl, rfl, h0, r0⟩ := trodAll_cons hA
  obtain ⟨v1, vs1, d1, ds1, p1, q1, rfl, rfl, rfl, h1, r1⟩ := trodAll_cons r0
  obtain ⟨v2, vs2, d2, ds2, p2, q2, rfl, rfl, rfl, h2, r2⟩ := trodAll_cons r1
  obtain ⟨rfl, rfl, rfl⟩ := trodAll_nil r2
  obtain rfl : args = #[v0, v1, v2] := by cases args; simp_all
  have k0 := h0
  have lt0 : ∀ x ∈ p0, x.block < W.heap.size := by obtain ⟨m, hm⟩ := k0; exact DataW.trod_lt m _ _ _ hm
  have k2 := h2
  have lt2 : ∀ x ∈ p2, x.block < W.heap.size := by obtain ⟨m, hm⟩ := k2; exact DataW.trod_lt m _ _ _ hm
  obtain ⟨m0, rfl, hm0⟩ := open_msg (hval 0 24 v0 rfl rfl) h0
  obtain ⟨a1, rfl, rfl, rfl, w1⟩ := open_int Tryz.underlying22 (hval 1 22 v1 rfl rfl) h1
  obtain ⟨st, rfl, hst⟩ := u64_nat' w1
  obtain ⟨zs, rfl, hz, hw2⟩ := open_ints_arr Tryz.underlying25 Tryz.underlying3 szc_int (by kernel_rfl) (hval 2 25 v2 rfl rfl) h2
  obtain ⟨za, zb, rfl⟩ : ∃ za zb, zs = [za, zb] := by
    match zs, hz with
    | [a, b], _ => exact ⟨a, b, rfl⟩
  obtain ⟨rfl, rfl⟩ := trodVars_none hV
  clear hA0
  simp only [List.append_nil] at hW'
  refine (clientBegins_walk W.heap.size m0 hm0 st hst za zb W (envC_of hL)).mono fun e W' ⟨he, hb⟩ => ?_
  subst he
  have bel : Below W.heap.size W W' := hb.later
  exact ⟨_, rfl, _, _, _, [], _, [], hW', trodAll_mk1 (shut_bool Tryz.underlying4 _), (trodAll_cons_mk (Below.trod laidOut (by kernel_rfl) (of_decide_eq_true (by kernel_rfl)) k0 bel lt0) (trodAll_cons_mk (shut_int Tryz.underlying22 w1) (trodAll_cons_mk (Below.trod laidOut (by kernel_rfl) (of_decide_eq_true (by kernel_rfl)) k2 bel lt2) trodAll_mk0))), rfl, bel.frame _, fun h => by cases h⟩
noncomputable def low : Nat := (World.holding Tryz.prog default ⟨#[], #[], []⟩).heap.size
noncomputable def laidWorld (os : Os) : World :=
  let w0 := World.holding Tryz.prog os ⟨#[.cells #[.int .u64 128, .int .u8 0, .int .i64 0, .int .u64 256, .int .u8 204, .int .i64 1, .int .u64 65536, .int .u8 205, .int .i64 2, .int .u64 4294967296, .int .u8 206, .int .i64 4, .int .u64 0, .int .u8 207, .int .i64 8] 291,
    .cells #[.int .u64 256, .int .u8 196, .int .i64 1, .int .u64 65536, .int .u8 197, .int .i64 2] 291,
    .cells #[.int .u64 32, .int .u8 160, .int .i64 0, .int .u64 256, .int .u8 217, .int .i64 1, .int .u64 65536, .int .u8 218, .int .i64 2] 291,
    .cells #[.int .u64 16, .int .u8 144, .int .i64 0, .int .u64 65536, .int .u8 220, .int .i64 2] 291,
    .cells #[.int .u64 16, .int .u8 128, .int .i64 0, .int .u64 65536, .int .u8 222, .int .i64 2] 291,
    .cells #[.int .u8 0, .int .u8 127, .int .i64 0, .int .u64 0, .int .u8 204, .int .u8 204, .int .i64 1, .int .u64 128, .int .u8 205, .int .u8 205, .int .i64 2, .int .u64 256, .int .u8 206, .int .u8 206, .int .i64 4, .int .u64 65536, .int .u8 207, .int .u8 207, .int .i64 8, .int .u64 4294967296] 300,
    .cells #[.int .u8 196, .int .u8 196, .int .i64 1, .int .u64 0, .int .u8 197, .int .u8 197, .int .i64 2, .int .u64 256] 300,
    .cells #[.int .u8 160, .int .u8 191, .int .i64 0, .int .u64 0, .int .u8 217, .int .u8 217, .int .i64 1, .int .u64 32, .int .u8 218, .int .u8 218, .int .i64 2, .int .u64 256] 300,
    .cells #[.int .u8 144, .int .u8 159, .int .i64 0, .int .u64 0, .int .u8 220, .int .u8 220, .int .i64 2, .int .u64 16] 300,
    .cells #[.int .u8 128, .int .u8 143, .int .i64 0, .int .u64 0, .int .u8 222, .int .u8 222, .int .i64 2, .int .u64 16] 300], #[], []⟩
  { w0 with heap := (((((((w0.heap.modify 1 fun
      | .cells _ t frozen => .cells #[.slice (some ⟨low + 0, 0, none⟩) 5 5, .slice (some ⟨low + 1, 0, none⟩) 2 2, .slice (some ⟨low + 2, 0, none⟩) 3 3, .slice (some ⟨low + 3, 0, none⟩) 2 2, .slice (some ⟨low + 4, 0, none⟩) 2 2] t frozen
      | o => o).modify 0 fun
      | .cells _ t frozen => .cells #[.slice (some ⟨low + 5, 0, none⟩) 5 5] t frozen
      | o => o).modify 2 fun
      | .cells _ t frozen => .cells #[.slice (some ⟨low + 6, 0, none⟩) 2 2] t frozen
      | o => o).modify 4 fun
      | .cells _ t frozen => .cells #[.slice (some ⟨low + 7, 0, none⟩) 3 3] t frozen
      | o => o).modify 6 fun
      | .cells _ t frozen => .cells #[.slice (some ⟨low + 8, 0, none⟩) 2 2] t frozen
      | o => o).modify 3 fun
      | .cells _ t frozen => .cells #[.slice (some ⟨low + 9, 0, none⟩) 2 2] t frozen
      | o => o).modify 5 fun
      | .cells _ t frozen => .cells #[.iface 360 (.agg #[.pointer (some ⟨7, 70, none⟩)])] t frozen
      | o => o) }
theorem laid_met (os : Os) : laidMetH Tryz.prog Rows.clientBeginsRow.laid ((laidWorld os).forCall (fun _ _ => 0) ⟨#[], #[.agg #[.string ⟨#[]⟩, .string ⟨#[]⟩, .int .u64 0, .int .u64 0, .int .u64 0, .int .u64 0], .int .u64 0, .agg #[.int .i64 0, .int .i64 0]], []⟩).memory :=
  laidMetH_of_parts (laidMet_of_run' 8 (by kernel_rfl) (by kernel_rfl)) (by kernel_rfl)
theorem reads (os : Os) {H : Type} (enc : TypeId × Value → H) : ∃ places, DataW.whole enc Tryz.prog ((laidWorld os).forCall (fun _ _ => 0) ⟨#[], #[.agg #[.string ⟨#[]⟩, .string ⟨#[]⟩, .int .u64 0, .int .u64 0, .int .u64 0, .int .u64 0], .int .u64 0, .agg #[.int .i64 0, .int .i64 0]], []⟩).memory Tryz.f3.params.toList Rows.clientBeginsSpec.vars false (#[.agg #[.string ⟨#[]⟩, .string ⟨#[]⟩, .int .u64 0, .int .u64 0, .int .u64 0, .int .u64 0], .int .u64 0, .agg #[.int .i64 0, .int .i64 0]] : Array Value).toList 8 = some ([.agg [.lit (.string []), .lit (.string []), .lit (.int .u64 0), .lit (.int .u64 0), .lit (.int .u64 0), .lit (.int .u64 0)], .lit (.int .u64 0), .agg [.lit (.int .i64 0), .lit (.int .i64 0)]], [], places) :=
  ⟨[], by kernel_rfl⟩
theorem hv (os : Os) : ((laidWorld os).forCall (fun _ _ => 0) ⟨#[], #[.agg #[.string ⟨#[]⟩, .string ⟨#[]⟩, .int .u64 0, .int .u64 0, .int .u64 0, .int .u64 0], .int .u64 0, .agg #[.int .i64 0, .int .i64 0]], []⟩).variablesRefB Tryz.checked.prog = true := by kernel_rfl
theorem hr (os : Os) : (((laidWorld os).forCall (fun _ _ => 0) ⟨#[], #[.agg #[.string ⟨#[]⟩, .string ⟨#[]⟩, .int .u64 0, .int .u64 0, .int .u64 0, .int .u64 0], .int .u64 0, .agg #[.int .i64 0, .int .i64 0]], []⟩).heap.toList.drop Tryz.checked.prog.globals.size).take ((begin Tryz.checked.prog (fun _ _ => 0) default).world.heap.size - Tryz.checked.prog.globals.size) = (begin Tryz.checked.prog (fun _ _ => 0) default).world.heap.toList.drop Tryz.checked.prog.globals.size := by kernel_rfl
theorem hok (os : Os) : Input.okWideB Tryz.checked.prog ((laidWorld os).forCall (fun _ _ => 0) ⟨#[], #[.agg #[.string ⟨#[]⟩, .string ⟨#[]⟩, .int .u64 0, .int .u64 0, .int .u64 0, .int .u64 0], .int .u64 0, .agg #[.int .i64 0, .int .i64 0]], []⟩) 3 ⟨#[], #[.agg #[.string ⟨#[]⟩, .string ⟨#[]⟩, .int .u64 0, .int .u64 0, .int .u64 0, .int .u64 0], .int .u64 0, .agg #[.int .i64 0, .int .i64 0]], []⟩ = true := by kernel_rfl
theorem ni : Tryz.checked.prog.inits.idxOf? 3 = none := by kernel_rfl
theorem hc {H : Type} : Rows.clientBeginsRow.domain.all (PathCond.test (H := H) Tryz.prog ⟨Tryz.f3.params.toList, [.agg [.lit (.string []), .lit (.string []), .lit (.int .u64 0), .lit (.int .u64 0), .lit (.int .u64 0), .lit (.int .u64 0)], .lit (.int .u64 0), .agg [.lit (.int .i64 0), .lit (.int .i64 0)]], (OpenSpec.ofChange Rows.clientBeginsSpec).bare.plain.varTypes Tryz.prog, []⟩) = true := by kernel_rfl
theorem hsz (os : Os) {H : Type} (enc : TypeId × Value → H) : (OpenSpec.ofChange Rows.clientBeginsSpec).bare.sizedB enc Tryz.prog Tryz.f3 false ((laidWorld os).forCall (fun _ _ => 0) ⟨#[], #[.agg #[.string ⟨#[]⟩, .string ⟨#[]⟩, .int .u64 0, .int .u64 0, .int .u64 0, .int .u64 0], .int .u64 0, .agg #[.int .i64 0, .int .i64 0]], []⟩).memory #[.agg #[.string ⟨#[]⟩, .string ⟨#[]⟩, .int .u64 0, .int .u64 0, .int .u64 0, .int .u64 0], .int .u64 0, .agg #[.int .i64 0, .int .i64 0]] 8 = true := by kernel_rfl
theorem prow (os : Os) {H : Type} (enc : TypeId × Value → H) : (OpenSpec.ofChange Rows.clientBeginsSpec).preRow enc Tryz.prog Tryz.f3 Rows.clientBeginsRow.domain false Rows.clientBeginsRow.laid ((laidWorld os).forCall (fun _ _ => 0) ⟨#[], #[.agg #[.string ⟨#[]⟩, .string ⟨#[]⟩, .int .u64 0, .int .u64 0, .int .u64 0, .int .u64 0], .int .u64 0, .agg #[.int .i64 0, .int .i64 0]], []⟩).memory #[.agg #[.string ⟨#[]⟩, .string ⟨#[]⟩, .int .u64 0, .int .u64 0, .int .u64 0, .int .u64 0], .int .u64 0, .agg #[.int .i64 0, .int .i64 0]] := by
  obtain ⟨places, hx⟩ := reads os enc
  exact OpenSpec.preRow_of_cond 8 hx hc (fun k hk => by cases hk) (hsz os enc) (laid_met os)
theorem wit (os : Os) {H : Type} (enc : TypeId × Value → H) : ∃ (w : World) (tape : Tape) (i : Input), w.os = os ∧ (w.forCall tape i).Shaped Tryz.checked.prog ∧ i.vars = [] ∧ Input.okWide Tryz.checked.prog (w.forCall tape i) .any w.heap.size 3 i ∧
      (OpenSpec.ofChange Rows.clientBeginsSpec).preRow enc Tryz.checked.prog Tryz.f3 Rows.clientBeginsRow.domain false Rows.clientBeginsRow.laid (w.forCall tape i).memory i.args ∧ ({ modest := false } : Assume).holds Tryz.checked.prog (lone (Frame.enter Tryz.checked.prog 3 i.args .normal) [] (w.forCall tape i)) :=
  witness_row_atRef (enc := enc) (C := Tryz.checked) false (laidWorld os) #[.agg #[.string ⟨#[]⟩, .string ⟨#[]⟩, .int .u64 0, .int .u64 0, .int .u64 0, .int .u64 0], .int .u64 0, .agg #[.int .i64 0, .int .i64 0]] rfl (hv os) (hr os) (hok os) (prow os enc)
set_option maxRecDepth 100000 in
theorem lifted (os : Os) (started : os.Started) (H : Type) (enc : TypeId × Value → H) (F : Stop.Interp) :
    ReturnsInHanded {} Tryz.checked os 3 .any ((OpenSpec.ofChange Rows.clientBeginsSpec).preRow enc Tryz.prog Tryz.f3 Rows.clientBeginsRow.domain false Rows.clientBeginsRow.laid) (((OpenSpec.ofChange Rows.clientBeginsSpec).at F).post enc Tryz.prog Tryz.f3 false true false false) := by
  refine returnsInHanded_of_row (C := Tryz.checked) (s := OpenSpec.ofChange Rows.clientBeginsSpec) own started ni Tryz.func3 (wit os enc) ?_
  intro W base args ds gs before hval hW _ _ _ hL _ _
  exact contract H enc W base args ds gs before hval hW hL
theorem k10 : (Rows.clientBeginsRow.inPlace == Tryz.pinned.checked.prog.inPlace 3) = true := by kernel_rfl
theorem k11 : (Rows.clientBeginsRow.unfollowed == Tryz.pinned.checked.prog.unfollowed 3) = true := by kernel_rfl
theorem k12 : (Rows.clientBeginsRow.recurses == Tryz.pinned.checked.prog.recurses 3) = true := by kernel_rfl
theorem k13 : (Rows.clientBeginsRow.named == Tryz.pinned.checked.prog.varsNamed 3) = true := by kernel_rfl
theorem and_i {a b : Bool} (h1 : a = true) (h2 : b = true) : (a && b) = true := by rw [h1, h2]; rfl
set_option maxRecDepth 100000 in
theorem closed : joinedFacts Tryz.pinned.checked.prog 3 Tryz.f3 (OpenSpec.ofChange Rows.clientBeginsSpec).bare Rows.clientBeginsRow = true := by
  unfold joinedFacts
  iterate 19 (refine and_i ?_ (by kernel_rfl))
  refine and_i (and_i (and_i (and_i ?_ k10) k11) k12) k13
  kernel_rfl
theorem said : Rows.ClientBeginsSaid :=
  OpenClaim.holds_of_cond 3 Tryz.f3 rfl rfl rfl rfl rfl rfl rfl ⟨rfl, rfl, rfl, rfl, rfl⟩ rfl rfl rfl rfl rfl (by kernel_rfl) Tryz.func3 closed
    (of_decide_eq_true (by kernel_rfl)) (by unfold Func.isWrapper; first | (rw [if_pos (by decide +kernel)]; kernel_rfl) | (rw [if_neg (by decide +kernel)]; exact ⟨rfl, rfl⟩))
    (fun os started H enc _ F => by rw [OpenClaim.pre_eq_preRow]; exact lifted os started H enc F)
theorem plain (f : FuncId) (fn : Func) (hf : Tryz.pinned.checked.prog.funcNamed "sextant/sextantlaw28.ClientBegins" = some f) (hfn : Tryz.pinned.checked.prog.funcs[f]? = some fn) :
    true = Tryz.pinned.checked.prog.looks [] ∧ ∀ (j : Nat) t, fn.params[j]? = some t → Tryz.pinned.checked.prog.wantsStandIn t = false := by
  obtain rfl : f = 3 := Option.some.inj ((show Tryz.prog.funcNamed "sextant/sextantlaw28.ClientBegins" = some 3 by kernel_rfl).symm.trans hf) |>.symm
  obtain rfl : fn = Tryz.f3 := (Option.some.inj (Tryz.func3.symm.trans hfn)).symm
  refine ⟨by kernel_rfl, fun j t ht => ?_⟩
  rw [Tryz.params3] at ht
  have h : t = 24 ∨ t = 22 ∨ t = 25 := by simpa using Array.mem_of_getElem? ht
  rcases h with rfl | rfl | rfl
  · exact (show Tryz.prog.wantsStandIn 24 = false by kernel_rfl)
  · exact (show Tryz.prog.wantsStandIn 22 = false by kernel_rfl)
  · exact (show Tryz.prog.wantsStandIn 25 = false by kernel_rfl)
theorem card : Rows.ClientBeginsCardSaid :=
  Claim7.holds_tied_plain_at .later [] _ _ _ _ said (fun _ h => by cases h) (by kernel_rfl) (fun _ h => by cases h) clientBegins_row_tie rfl ⟨rfl, rfl⟩ (by kernel_rfl) rfl plain (by kernel_rfl)
end Go.Proofs.YtdaojlipkffigaaGreatDoor.clientBegins
