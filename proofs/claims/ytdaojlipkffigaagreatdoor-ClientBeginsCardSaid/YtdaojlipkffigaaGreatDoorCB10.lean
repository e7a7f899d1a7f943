/- PQ, PR, PS, PT, PU: merged by merge.py. -/
import Derived.Test.YtdaojlipkffigaaGreatDoorCB09
namespace Go.Proofs.YtdaojlipkffigaaGreatDoor
set_option linter.unusedVariables false
set_option linter.unusedSimpArgs false
set_option maxRecDepth 100000
open Go Go.RowKit Go.Extern.Stop Go.Stop Go.Extern
theorem isTypeOf (v : Value) (w : World) : (Extern.ReflectliteType.typeOf #[.iface 27 v]).run Tryz.prog w = .ok (.iface 360 (.agg #[.pointer (some ⟨7, 27, none⟩)])) w := by kernel_rfl
theorem isComparable (w : World) : (callFunc 376 #[.agg #[.pointer (some ⟨7, 27, none⟩)]]).run Tryz.prog w = .ok (.value (.bool true)) w := by
  rw [@run_callFunc_extern Tryz.prog 376 _ (Extern.ReflectliteType.method fun t => do Rtype.noPackHeld "Comparable" t; pure (.bool (← typeInfo t).comparable)) Tryz.func376 (by kernel_rfl) (by kernel_rfl) (by kernel_rfl) (by kernel_rfl)]
  kernel_rfl
theorem isMethodComparable (v : Value) (w : World) : (Go.method 560 360 v "Comparable").run Tryz.prog w = .ok (376, v) w := by kernel_rfl
theorem noIsE (v : Value) (xT : TypeId) (w : World) : (Instr.typeAssert (.iface 27 v) xT 362 true).run Tryz.prog w = .ok (.tuple #[.nilIface, .bool false]) w := run_typeAssert_lacksB Tryz.underlying362 (by kernel_rfl) (by kernel_rfl) v xT w
theorem noUnwrapE (v : Value) (xT : TypeId) (w : World) : (Instr.typeAssert (.iface 27 v) xT 365 true).run Tryz.prog w = .ok (.tuple #[.nilIface, .bool false]) w := run_typeAssert_lacksB Tryz.underlying365 (by kernel_rfl) (by kernel_rfl) v xT w
theorem noUnwrapsE (v : Value) (xT : TypeId) (w : World) : (Instr.typeAssert (.iface 27 v) xT 366 true).run Tryz.prog w = .ok (.tuple #[.nilIface, .bool false]) w := run_typeAssert_lacksB Tryz.underlying366 (by kernel_rfl) (by kernel_rfl) v xT w
theorem noIsW (v : Value) (xT : TypeId) (w : World) : (Instr.typeAssert (.iface 243 v) xT 362 true).run Tryz.prog w = .ok (.tuple #[.nilIface, .bool false]) w := run_typeAssert_lacksB Tryz.underlying362 (by kernel_rfl) (by kernel_rfl) v xT w
theorem hasUnwrapW (v : Value) (xT : TypeId) (w : World) : (Instr.typeAssert (.iface 243 v) xT 365 true).run Tryz.prog w = .ok (.tuple #[.iface 243 v, .bool true]) w := run_typeAssert_hasB Tryz.underlying365 (by kernel_rfl) v xT w
theorem methodUnwrap (v : Value) (w : World) : (Go.method 560 243 v "Unwrap").run Tryz.prog w = .ok (369, v) w := by kernel_rfl
theorem eq51 (w : World) : (binOp .eql 70 (.iface 27 (.int .i64 5)) (.iface 27 (.int .i64 1))).run Tryz.prog w = .ok (.bool false) w := by kernel_rfl
set_option maxHeartbeats 4000000 in
theorem is_fault (p : Nat) (at_ : Int) (w : World) (h : Blk w p #[.int .i64 5, .int .i64 at_] 297) :
    Calls Tryz.prog 171 #[.iface 243 (.pointer (some ⟨p, 0, none⟩)), .iface 27 (.int .i64 1)] w fun e w' => e = .returned (.bool false) ∧ w' = w := by
  have h8 := @run_callFunc_extern Tryz.prog 218 _ Extern.ReflectliteType.typeOf Tryz.func218 (by kernel_rfl) (by kernel_rfl) (by kernel_rfl) (by kernel_rfl)
  have tT := isTypeOf
  have cT := isComparable
  have mR := isMethodComparable
  have nE := noIsE
  have uE := noUnwrapE
  have vE := noUnwrapsE
  have nW := noIsW
  have uW := hasUnwrapW
  have mU := methodUnwrap
  have q51 := eq51
  have c0 := h.cell 0 rfl
  clear h
  have hty := run_eql_iface_types (P := Tryz.prog) 243 27 (.pointer (some ⟨p, 0, none⟩)) (.int .i64 1) Tryz.underlying70 (by decide) w
  go_enter Tryz.func171, Tryz.ntmps171
  go_wp2
  refine wp_loop_rounds 2 ?_
  rw [rounds_succ]
  go_wp2
  rw [rounds_succ]
  go_wp2
  go_ret
  exact ⟨rfl, rfl⟩
theorem asValueOf (t : Addr) (w : World) : (ReflectliteValue.unpack (.iface 246 (.pointer (some t)))).run Tryz.prog w
    = .ok (.agg #[.pointer (some ⟨7, 246, none⟩), .pointer (some ⟨w.heap.size, 0, none⟩), .int .u64 150]) (w.alloc (.cells #[.pointer (some t)] 246)) := by kernel_rfl
theorem asType (a : Addr) (w : World) : (ReflectliteValue.methodAny (ReflectliteValue.valueError "reflectlite.Value.Type" 0) (fun t _ _ _ => ReflectliteType.toType t) #[.agg #[.pointer (some ⟨7, 246, none⟩), .pointer (some a), .int .u64 150]]).run Tryz.prog w
    = .ok (.iface 360 (.agg #[.pointer (some ⟨7, 246, none⟩)])) w := by kernel_rfl
theorem asMethodKind (h : Value) (w : World) : (Go.method 560 360 (.agg #[h]) "Kind").run Tryz.prog w = .ok (361, h) w := by kernel_rfl
theorem asKind2 (w : World) : ((ReflectliteType.abiMethod fun t => (fun a : Nat => Value.int IntKind.u8 (a : Int)) <$> Rtype.kind t) #[.pointer (some ⟨7, 246, none⟩)]).run Tryz.prog w = .ok (.int .u8 22) w := by kernel_rfl
theorem asKind1 (w : World) : ((ReflectliteType.abiMethod fun t => (fun a : Nat => Value.int IntKind.u8 (a : Int)) <$> Rtype.kind t) #[.pointer (some ⟨7, 243, none⟩)]).run Tryz.prog w = .ok (.int .u8 22) w := by kernel_rfl
theorem rlm (z : Sem Value) (f : TypeId → Addr → Nat → Nat → Sem Value) (v : Value) :
    ReflectliteValue.method z f #[v] = (do match ← ReflectliteValue.parts v with | none => z | some (t, a, fl) => f t a fl (fl % 32)) := rfl
theorem asParts2 (a : Addr) (w : World) : (ReflectliteValue.parts (.agg #[.pointer (some ⟨7, 246, none⟩), .pointer (some a), .int .u64 150])).run Tryz.prog w = .ok (some (246, a, 150)) w := by kernel_rfl
theorem asIsNil (a p : Addr) (W : World) (ha : W.cell? a = some (.pointer (some p))) :
    (ReflectliteValue.method (ReflectliteValue.valueError "reflectlite.Value.IsNil" 0) ReflectliteValue.isNil #[.agg #[.pointer (some ⟨7, 246, none⟩), .pointer (some a), .int .u64 150]]).run Tryz.prog W = .ok (.bool false) W := by
  rw [rlm]
  simp only [Sem.run_bind, asParts2, Result.andThen]
  simp [ReflectliteValue.isNil, loadVar, isAgg, underlying, Tryz.underlying246, ha, Result.andThen]
theorem asMethodElem (h : Value) (w : World) : (Go.method 560 360 (.agg #[h]) "Elem").run Tryz.prog w = .ok (377, .agg #[h]) w := by kernel_rfl
theorem asMethodImplements (h : Value) (w : World) : (Go.method 560 360 (.agg #[h]) "Implements").run Tryz.prog w = .ok (378, .agg #[h]) w := by kernel_rfl
theorem asMethodAssignableTo (h : Value) (w : World) : (Go.method 560 360 (.agg #[h]) "AssignableTo").run Tryz.prog w = .ok (375, .agg #[h]) w := by kernel_rfl
theorem asElem2 (w : World) : (ReflectliteType.method ReflectliteType.elem #[.agg #[.pointer (some ⟨7, 246, none⟩)]]).run Tryz.prog w = .ok (.iface 360 (.agg #[.pointer (some ⟨7, 243, none⟩)])) w := by kernel_rfl
theorem asImplements (w : World) : (ReflectliteType.relation "Implements" ReflectliteType.implements_ #[.agg #[.pointer (some ⟨7, 243, none⟩)], .iface 360 (.agg #[.pointer (some ⟨7, 70, none⟩)])]).run Tryz.prog w = .ok (.bool true) w := by kernel_rfl
theorem asTypeOf (v : Value) (w : World) : (ReflectliteType.typeOf #[.iface 243 v]).run Tryz.prog w = .ok (.iface 360 (.agg #[.pointer (some ⟨7, 243, none⟩)])) w := by kernel_rfl
theorem asAssignable (w : World) : (ReflectliteType.relation "AssignableTo" ReflectliteType.assignableTo #[.agg #[.pointer (some ⟨7, 243, none⟩)], .iface 360 (.agg #[.pointer (some ⟨7, 243, none⟩)])]).run Tryz.prog w = .ok (.bool true) w := by kernel_rfl
theorem asValueOf1 (e : Addr) (w : World) : (ReflectliteValue.unpack (.iface 243 (.pointer (some e)))).run Tryz.prog w
    = .ok (.agg #[.pointer (some ⟨7, 243, none⟩), .pointer (some ⟨w.heap.size, 0, none⟩), .int .u64 150]) (w.alloc (.cells #[.pointer (some e)] 243)) := by kernel_rfl
theorem asElemOf (w : World) : (Rtype.elem? 246).run Tryz.prog w = .ok (some 243) w := by kernel_rfl
theorem asMk (p : Addr) (w : World) : (ReflectliteValue.mk 243 p ReflectliteValue.flagAddr).run Tryz.prog w = .ok (.agg #[.pointer (some ⟨7, 243, none⟩), .pointer (some p), .int .u64 406]) w := by kernel_rfl
theorem asElemV (a p : Addr) (W : World) (ha : W.cell? a = some (.pointer (some p))) :
    (ReflectliteValue.method (ReflectliteValue.valueError "reflectlite.Value.Elem" 0) ReflectliteValue.elem #[.agg #[.pointer (some ⟨7, 246, none⟩), .pointer (some a), .int .u64 150]]).run Tryz.prog W
      = .ok (.agg #[.pointer (some ⟨7, 243, none⟩), .pointer (some p), .int .u64 406]) W := by
  rw [rlm]
  simp only [Sem.run_bind, asParts2, Result.andThen]
  simp [ReflectliteValue.elem, loadVar, isAgg, underlying, Tryz.underlying246, ha, Result.andThen, asElemOf, asMk]
theorem rls (v x : Value) : ReflectliteValue.set #[v, x] = (do
    let (some (dst, a, fl), some (src, b, _)) := (← ReflectliteValue.parts v, ← ReflectliteValue.parts x)
      | unsupported (.noEntry "extern/(internal/reflectlite.Value).Set.zeroValue")
    if fl / ReflectliteValue.flagAddr % 2 == 0 then unsupported (.noEntry "extern/(internal/reflectlite.Value).Set.unaddressable")
    let val ← loadVar src b
    if ← Rtype.directlyAssignable dst src then storeVar dst a val
    else if ← Rtype.implements dst src then
      if (← Rtype.kind src) == 20 then
        match val with
        | .nilIface => unsupported (.noEntry "extern/reflectlite: a nil value of one interface type handed on as a value of another")
        | _ => storeVar dst a val
      else storeVar dst a (.iface src val)
    else panicString ("reflectlite.Set: value of type " ++ (← Rtype.spelt src) ++ " is not assignable to type " ++ (← Rtype.spelt dst))
    pure (.tuple #[])) := rfl
theorem asParts1a (a : Addr) (w : World) : (ReflectliteValue.parts (.agg #[.pointer (some ⟨7, 243, none⟩), .pointer (some a), .int .u64 406])).run Tryz.prog w = .ok (some (243, a, 406)) w := by kernel_rfl
theorem asParts1 (a : Addr) (w : World) : (ReflectliteValue.parts (.agg #[.pointer (some ⟨7, 243, none⟩), .pointer (some a), .int .u64 150])).run Tryz.prog w = .ok (some (243, a, 150)) w := by kernel_rfl
theorem asDirect (w : World) : (Rtype.directlyAssignable 243 243).run Tryz.prog w = .ok true w := by kernel_rfl
theorem asSet (ta b e : Addr) (old : Value) (W : World) (hb : W.cell? b = some (.pointer (some e))) (ht : W.cell? ta = some old) (hf : W.frozen? ta = false) :
    (ReflectliteValue.set #[.agg #[.pointer (some ⟨7, 243, none⟩), .pointer (some ta), .int .u64 406], .agg #[.pointer (some ⟨7, 243, none⟩), .pointer (some b), .int .u64 150]]).run Tryz.prog W
      = .ok (.tuple #[]) (W.setCell ta (.pointer (some e))) := by
  rw [rls]
  simp only [Sem.run_bind, asParts1a, asParts1, Result.andThen]
  simp [ReflectliteValue.flagAddr, loadVar, isAgg, underlying, Tryz.underlying243, hb, Result.andThen, asDirect, storeVar, Value.cells, storeCells, Addr.add]
  rw [run_store Tryz.prog W ta _ _ (by rfl)]
  simp [ht, hf]
def asW (w : World) (t e : Addr) : World := ((((w.alloc (.cells #[.pointer (some t)] 246)).alloc (.cells #[.pointer (some ⟨7, 246, none⟩), .pointer (some ⟨w.heap.size, 0, none⟩), .int .u64 150] 309)).alloc (.cells #[.pointer (some ⟨7, 246, none⟩), .pointer (some ⟨w.heap.size, 0, none⟩), .int .u64 150] 309)).alloc (.cells #[.pointer (some e)] 243)).setCell t (.pointer (some e))
set_option maxHeartbeats 8000000 in
theorem as_hit (e t : Addr) (old : Value) (w : World) (hg : w.cell? ⟨5, 0, none⟩ = some (.iface 360 (.agg #[.pointer (some ⟨7, 70, none⟩)]))) (ht0 : w.cell? t = some old) (hf0 : w.frozen? t = false) :
    Calls Tryz.prog 172 #[.iface 243 (.pointer (some e)), .iface 246 (.pointer (some t))] w fun ev w' => ev = .returned (.bool true) ∧ w' = asW w t e := by
  have h6 := @run_callFunc_extern Tryz.prog 220 _ (fun args => ReflectliteValue.unpack (args.getD 0 (.tuple #[]))) Tryz.func220 (by kernel_rfl) (by kernel_rfl) (by kernel_rfl) (by kernel_rfl)
  have h7 := @run_callFunc_extern Tryz.prog 221 _ (ReflectliteValue.methodAny (ReflectliteValue.valueError "reflectlite.Value.Type" 0) (fun t _ _ _ => ReflectliteType.toType t)) Tryz.func221 (by kernel_rfl) (by kernel_rfl) (by kernel_rfl) (by kernel_rfl)
  have h8 := @run_callFunc_extern Tryz.prog 222 _ (ReflectliteValue.method (ReflectliteValue.valueError "reflectlite.Value.IsNil" 0) ReflectliteValue.isNil) Tryz.func222 (by kernel_rfl) (by kernel_rfl) (by kernel_rfl) (by kernel_rfl)
  have h27 := @run_callFunc_extern Tryz.prog 361 _ (ReflectliteType.abiMethod fun t => do pure (.int .u8 (← Rtype.kind t))) Tryz.func361 (by kernel_rfl) (by kernel_rfl) (by kernel_rfl) (by kernel_rfl)
  have h37 := @run_callFunc_extern Tryz.prog 377 _ (ReflectliteType.method ReflectliteType.elem) Tryz.func377 (by kernel_rfl) (by kernel_rfl) (by kernel_rfl) (by kernel_rfl)
  have h38 := @run_callFunc_extern Tryz.prog 378 _ (ReflectliteType.relation "Implements" ReflectliteType.implements_) Tryz.func378 (by kernel_rfl) (by kernel_rfl) (by kernel_rfl) (by kernel_rfl)
  have h10 := @run_callFunc_extern Tryz.prog 218 _ ReflectliteType.typeOf Tryz.func218 (by kernel_rfl) (by kernel_rfl) (by kernel_rfl) (by kernel_rfl)
  have h35 := @run_callFunc_extern Tryz.prog 375 _ (ReflectliteType.relation "AssignableTo" ReflectliteType.assignableTo) Tryz.func375 (by kernel_rfl) (by kernel_rfl) (by kernel_rfl) (by kernel_rfl)
  have h11 := @run_callFunc_extern Tryz.prog 260 _ (ReflectliteValue.method (ReflectliteValue.valueError "reflectlite.Value.Elem" 0) ReflectliteValue.elem) Tryz.func260 (by kernel_rfl) (by kernel_rfl) (by kernel_rfl) (by kernel_rfl)
  have h12 := @run_callFunc_extern Tryz.prog 261 _ ReflectliteValue.set Tryz.func261 (by kernel_rfl) (by kernel_rfl) (by kernel_rfl) (by kernel_rfl)
  have tO := asTypeOf
  have mA := asMethodAssignableTo
  have a25 := asAssignable
  have v25 := asValueOf1
  have f6 := asValueOf
  have f7 := asType
  have mK := asMethodKind
  have mE := asMethodElem
  have mI := asMethodImplements
  have k27 := asKind2
  have k25 := asKind1
  have e27 := asElem2
  have i25 := asImplements
  have n8 := asIsNil ⟨w.heap.size, 0, none⟩ t ((w.alloc (.cells #[.pointer (some t)] 246)).alloc (.cells #[.pointer (some ⟨7, 246, none⟩), .pointer (some ⟨w.heap.size, 0, none⟩), .int .u64 150] 309)) (by simp)
  have hlt : 5 < w.heap.size := by
    rcases Nat.lt_or_ge 5 w.heap.size with h | h
    · exact h
    · simp [World.cell?, Array.getElem?_eq_none h] at hg
  have hg2 : ((w.alloc (.cells #[.pointer (some t)] 246)).alloc (.cells #[.pointer (some ⟨7, 246, none⟩), .pointer (some ⟨w.heap.size, 0, none⟩), .int .u64 150] 309)).cell? ⟨5, 0, none⟩ = some (.iface 360 (.agg #[.pointer (some ⟨7, 70, none⟩)])) := by
    rw [World.cell?_alloc_lt _ _ ⟨5, 0, none⟩ (by simp; omega), World.cell?_alloc_lt _ _ ⟨5, 0, none⟩ hlt]; exact hg
  have htl : t.block < w.heap.size := by
    rcases Nat.lt_or_ge t.block w.heap.size with h | h
    · exact h
    · simp [World.cell?, Array.getElem?_eq_none h] at ht0
  have el := asElemV ⟨w.heap.size, 0, none⟩ t (((w.alloc (.cells #[.pointer (some t)] 246)).alloc (.cells #[.pointer (some ⟨7, 246, none⟩), .pointer (some ⟨w.heap.size, 0, none⟩), .int .u64 150] 309)).alloc (.cells #[.pointer (some ⟨7, 246, none⟩), .pointer (some ⟨w.heap.size, 0, none⟩), .int .u64 150] 309)) (by rw [World.cell?_alloc_lt _ _ ⟨w.heap.size, 0, none⟩ (by simp; omega)]; simp)
  have st := asSet t ⟨w.heap.size + 1 + 1 + 1, 0, none⟩ e old ((((w.alloc (.cells #[.pointer (some t)] 246)).alloc (.cells #[.pointer (some ⟨7, 246, none⟩), .pointer (some ⟨w.heap.size, 0, none⟩), .int .u64 150] 309)).alloc (.cells #[.pointer (some ⟨7, 246, none⟩), .pointer (some ⟨w.heap.size, 0, none⟩), .int .u64 150] 309)).alloc (.cells #[.pointer (some e)] 243))
    (by rw [World.cell?_alloc_at _ _ _ _ (by simp)]; rfl)
    (by rw [World.cell?_alloc_lt _ _ t (by simp; omega), World.cell?_alloc_lt _ _ t (by simp; omega), World.cell?_alloc_lt _ _ t (by simp; omega), World.cell?_alloc_lt _ _ t htl]; exact ht0)
    (by rw [World.frozen?_alloc_old _ _ t (by simp; omega), World.frozen?_alloc_old _ _ t (by simp; omega), World.frozen?_alloc_old _ _ t (by simp; omega), World.frozen?_alloc_old _ _ t (Nat.ne_of_lt htl)]; exact hf0)
  go_enter Tryz.func172, Tryz.ntmps172
  go_wp2
  refine wp_loop_rounds 1 ?_
  rw [rounds_succ]
  go_wp2
  go_ret
  exact ⟨rfl, rfl⟩
theorem as_but (w : World) (t e : Addr) {L : List Nat} (h : t.block ∈ L ∨ w.heap.size ≤ t.block) : But L w (asW w t e) := by
  unfold asW
  exact (((((But.refl L w).alloc _).alloc _).alloc _).alloc _).setCell h _
end Go.Proofs.YtdaojlipkffigaaGreatDoor
namespace Go.Proofs.YtdaojlipkffigaaGreatDoor
set_option linter.unusedVariables false
set_option linter.unusedSimpArgs false
set_option maxRecDepth 100000
open Go Go.RowKit Go.Extern.Stop Go.Stop Go.Extern
def ErrT (W : World) : Prop := W.cell? ⟨5, 0, none⟩ = some (.iface 360 (.agg #[.pointer (some ⟨7, 70, none⟩)]))
theorem ErrT.but {W W' : World} {L : List Nat} (h : ErrT W) (hb : But L W W') (hn : 5 ∉ L) : ErrT W' := by
  have hlt : 5 < W.heap.size := by
    rcases Nat.lt_or_ge 5 W.heap.size with h' | h'
    · exact h'
    · simp [ErrT, World.cell?, Array.getElem?_eq_none h'] at h
  exact (World.cell?_of_block (hb.block _ hlt hn)).trans h
set_option maxHeartbeats 2000000 in
theorem end_ok (g at_ most : Nat) (S : List UInt8) (W : World) (h : Rd W g (mkS S) at_ most) (hat : at_ ≤ S.length) (hn : S.drop at_ = []) :
    Calls Tryz.prog 129 #[.pointer (some ⟨g, 0, none⟩)] W fun e w' => e = .returned .nilIface ∧ But [] W w' := by
  have HL := Shut.mk (left_ok g at_ most S W h hat hn)
  clear h hn
  go_enter Tryz.func129, Tryz.ntmps129
  go_wp2_with fail
  refine HL.out.mono ?_
  rintro e w1 ⟨rfl, hb1⟩
  have B1 := Shut.mk (hb1.alloc (.cells #[.pointer none] 243))
  clear hb1
  go_wp2_with fail
  refine (is_nil _ _).mono ?_
  rintro e w2 ⟨rfl, rfl⟩
  go_wp2_with fail
  refine (as_nil _ _).mono ?_
  rintro e w3 ⟨rfl, rfl⟩
  go_wp2_with fail
  go_ret
  exact ⟨rfl, B1.out⟩
set_option maxHeartbeats 2000000 in
theorem end_bad (g at_ most : Nat) (S : List UInt8) (W : World) (hE : ErrT W) (h : Rd W g (mkS S) at_ most) (hat : at_ ≤ S.length) (b : UInt8) (r : List UInt8) (hn : S.drop at_ = b :: r) :
    Calls Tryz.prog 129 #[.pointer (some ⟨g, 0, none⟩)] W fun e w' => (∃ p, e = .returned (.iface 243 (.pointer (some ⟨p, 0, none⟩)))) ∧ But [] W w' := by
  have HL := Shut.mk (left_bad g at_ most S W h hat b r hn)
  have HE := Shut.mk hE
  clear h hn hE
  go_enter Tryz.func129, Tryz.ntmps129
  go_wp2_with fail
  refine HL.out.mono ?_
  rintro e w1 ⟨p, rfl, hp, hb1⟩
  have B1 := Shut.mk (hb1.alloc (.cells #[.pointer none] 243))
  have F1 := Shut.mk (hp.alloc (.cells #[.pointer none] 243))
  have T1 := Shut.mk (Blk.new w1 #[.pointer none] 243)
  have HZ : Shut (W.heap.size ≤ w1.heap.size) := ⟨hb1.size⟩
  clear hb1 hp
  go_upto_region 3 with fail
  generalize w1.alloc (.cells #[.pointer none] 243) = w2 at *
  generalize w1.heap.size = t at *
  go_wp2_with fail
  refine (is_fault p at_ w2 F1.out).mono ?_
  rintro e w3 ⟨rfl, rfl⟩
  go_wp2_with fail
  refine (as_hit ⟨p, 0, none⟩ ⟨t, 0, none⟩ (.pointer none) w3 (HE.out.but B1.out (by simp)) (T1.out.cell 0 rfl) (T1.out.frozen 0)).mono ?_
  rintro e w4 ⟨rfl, hw⟩
  have B4 := Shut.mk (B1.out.trans2 (as_but w3 ⟨t, 0, none⟩ ⟨p, 0, none⟩ (L := [t]) (Or.inl (by simp))) (by have := HZ.out; simp; omega))
  rw [← hw] at B4
  clear hw
  go_wp2_with fail
  go_ret
  exact ⟨⟨p, rfl⟩, B4.out⟩
end Go.Proofs.YtdaojlipkffigaaGreatDoor
namespace Go.Proofs.YtdaojlipkffigaaGreatDoor
set_option linter.unusedVariables false
set_option linter.unusedSimpArgs false
set_option maxRecDepth 100000
open Go Go.RowKit
theorem stop_yes (v : Value) (W : World) : (Instr.typeAssert (.iface 178 v) 20 178 true).run Tryz.prog W = .ok (.tuple #[v, .bool true]) W := by kernel_rfl
theorem catch_tmps (r p x : Value) : #[r, p] ++ ((Array.replicate 18 undef).setIfInBounds 4 x).setIfInBounds 0 x = #[r, p, x, undef, undef, undef, x, undef, undef, undef, undef, undef, undef, undef, undef, undef, undef, undef, undef, undef] := by
  apply Array.ext'
  simp [List.replicate]
theorem catchMsg_idle (r p : Value) (W : World) :
    CallsD Tryz.prog 126 #[r, p] .returning W fun e u' w' => e = .returned (.tuple #[]) ∧ u' = .returning ∧ w' = W := by
  refine callsD_of_wpS Tryz.func126 rfl fun c₀ cs hu => ?_
  apply wpS_seq
  apply wpS_region
  simp [wpOpsS, go_sem, recoverD, hu, Tryz.ntmps126, Exit.thenS]
  refine wpS_of_wp ?_
  rw [catch_tmps]
  go_wp2_with fail
  cases c₀
  refine ⟨rfl, .returning, ?_, _, by simp [results, Tryz.results126], rfl, rfl, rfl⟩
  simp_all
def msg0 : Array Value := #[.string ⟨#[]⟩, .string ⟨#[]⟩, .int .u64 0, .int .u64 0, .int .u64 0, .int .u64 0]
theorem six_set {a b c d e f : Value} (cs : Array Value) (h : cs.size = 6) : (((((cs.setIfInBounds 0 a).setIfInBounds 1 b).setIfInBounds 2 c).setIfInBounds 3 d).setIfInBounds 4 e).setIfInBounds 5 f = #[a, b, c, d, e, f] := by
  obtain ⟨l⟩ := cs
  match l, h with
  | [_, _, _, _, _, _], _ => rfl
set_option maxHeartbeats 2000000 in
theorem catchMsg_panic (g p : Nat) (cs0 : Array Value) (he : cs0.size = 6) (older : List PanicEntry) (f : Nat) (W : World) (h : Blk W g cs0 24) (hv : Blk W p #[.nilIface] 70) (hne : g ≠ p) :
    CallsD Tryz.prog 126 #[.pointer (some ⟨g, 0, none⟩), .pointer (some ⟨p, 0, none⟩)] (.panicking ({ v := .iface 178 (.agg #[.iface 243 (.pointer (some ⟨f, 0, none⟩))]), recovered := false } :: older)) W fun e u' w' =>
      e = .returned (.tuple #[]) ∧ u' = .panicking ({ v := .iface 178 (.agg #[.iface 243 (.pointer (some ⟨f, 0, none⟩))]), recovered := true } :: older) ∧ Blk w' g msg0 24 ∧ Blk w' p #[.iface 243 (.pointer (some ⟨f, 0, none⟩))] 70 ∧ But [g, p] W w' := by
  have HY := stop_yes
  have HV := Shut.mk hv
  have HG := Shut.mk h
  have hgl := h.lt
  have hpl := hv.lt
  clear hv h
  refine callsD_of_wpS Tryz.func126 rfl fun c₀ cs hu => ?_
  apply wpS_seq
  apply wpS_region
  simp [wpOpsS, go_sem, recoverD, hu, Tryz.ntmps126, Exit.thenS]
  refine wpS_of_wp ?_
  rw [catch_tmps]
  have B2 := Shut.mk (((But.refl [] W).alloc (.cells #[.iface 243 (.pointer (some ⟨f, 0, none⟩))] 178)).alloc (.cells msg0 24))
  have S1 := Shut.mk ((Blk.new W #[.iface 243 (.pointer (some ⟨f, 0, none⟩))] 178).alloc (.cells msg0 24))
  have M1 := Shut.mk (Blk.new (W.alloc (.cells #[.iface 243 (.pointer (some ⟨f, 0, none⟩))] 178)) msg0 24)
  rw [msg0] at B2 S1 M1
  have G1 := Shut.mk (HG.out.but B2.out (by simp))
  have P1 := Shut.mk (HV.out.but B2.out (by simp))
  go_upto_region 6 with fail
  generalize (W.alloc (.cells #[.iface 243 (.pointer (some ⟨f, 0, none⟩))] 178)).alloc (.cells #[.string ⟨#[]⟩, .string ⟨#[]⟩, .int .u64 0, .int .u64 0, .int .u64 0, .int .u64 0] 24) = W2 at *
  rw [World.size_alloc] at M1
  generalize hs : W.heap.size = sb at *
  have s0 := S1.out.cell 0 rfl
  have m0 := M1.out.cell 0 rfl
  have m1 := M1.out.cell 1 rfl
  have m2 := M1.out.cell 2 rfl
  have m3 := M1.out.cell 3 rfl
  have m4 := M1.out.cell 4 rfl
  have m5 := M1.out.cell 5 rfl
  have f0 := G1.out.frozen 0
  have f1 := G1.out.frozen 1
  have f2 := G1.out.frozen 2
  have f3 := G1.out.frozen 3
  have f4 := G1.out.frozen 4
  have f5 := G1.out.frozen 5
  have q0 := P1.out.frozen 0
  have p0 := P1.out.cell 0 rfl
  obtain ⟨v0, hv0⟩ : ∃ v, cs0[0]? = some v := ⟨cs0[0], by simp [he]⟩
  obtain ⟨v1, hv1⟩ : ∃ v, cs0[1]? = some v := ⟨cs0[1], by simp [he]⟩
  obtain ⟨v2, hv2⟩ : ∃ v, cs0[2]? = some v := ⟨cs0[2], by simp [he]⟩
  obtain ⟨v3, hv3⟩ : ∃ v, cs0[3]? = some v := ⟨cs0[3], by simp [he]⟩
  obtain ⟨v4, hv4⟩ : ∃ v, cs0[4]? = some v := ⟨cs0[4], by simp [he]⟩
  obtain ⟨v5, hv5⟩ : ∃ v, cs0[5]? = some v := ⟨cs0[5], by simp [he]⟩
  have g0 := G1.out.cell 0 hv0
  have g1 := G1.out.cell 1 hv1
  have g2 := G1.out.cell 2 hv2
  have g3 := G1.out.cell 3 hv3
  have g4 := G1.out.cell 4 hv4
  have g5 := G1.out.cell 5 hv5
  have hgs : g ≠ sb := by omega
  have hgm : g ≠ sb + 1 := by omega
  have hps : p ≠ sb := by omega
  have hpm : p ≠ sb + 1 := by omega
  go_region
  have GG : Blk ((((((W2.setCell ⟨g, 0, none⟩ (.string ⟨#[]⟩)).setCell ⟨g, 1, none⟩ (.string ⟨#[]⟩)).setCell ⟨g, 2, none⟩ (.int .u64 0)).setCell ⟨g, 3, none⟩ (.int .u64 0)).setCell ⟨g, 4, none⟩ (.int .u64 0)).setCell ⟨g, 5, none⟩ (.int .u64 0)) g msg0 24 := by
    have := (((((G1.out.set 0 (.string ⟨#[]⟩)).set 1 (.string ⟨#[]⟩)).set 2 (.int .u64 0)).set 3 (.int .u64 0)).set 4 (.int .u64 0)).set 5 (.int .u64 0)
    rwa [six_set cs0 he] at this
  have BB := ((((((B2.out.nil (L := [g, p])).setCell (p := ⟨g, 0, none⟩) (Or.inl (by simp)) (.string ⟨#[]⟩)).setCell (p := ⟨g, 1, none⟩) (Or.inl (by simp)) (.string ⟨#[]⟩)).setCell (p := ⟨g, 2, none⟩) (Or.inl (by simp)) (.int .u64 0)).setCell (p := ⟨g, 3, none⟩) (Or.inl (by simp)) (.int .u64 0)).setCell (p := ⟨g, 4, none⟩) (Or.inl (by simp)) (.int .u64 0)).setCell (p := ⟨g, 5, none⟩) (Or.inl (by simp)) (.int .u64 0)
  have PP := ((((((P1.out.far (p := ⟨g, 0, none⟩) hne (.string ⟨#[]⟩)).far (p := ⟨g, 1, none⟩) hne (.string ⟨#[]⟩)).far (p := ⟨g, 2, none⟩) hne (.int .u64 0)).far (p := ⟨g, 3, none⟩) hne (.int .u64 0)).far (p := ⟨g, 4, none⟩) hne (.int .u64 0)).far (p := ⟨g, 5, none⟩) hne (.int .u64 0)).set 0 (.iface 243 (.pointer (some ⟨f, 0, none⟩)))
  exact ⟨rfl, _, rfl, _, by simp [results, Tryz.results126], rfl, rfl, (GG.far (p := ⟨p, 0, none⟩) (Ne.symm hne) _).drew, PP.drew, (BB.setCell (p := ⟨p, 0, none⟩) (Or.inl (by simp)) _).drew⟩
end Go.Proofs.YtdaojlipkffigaaGreatDoor
namespace Go.Proofs.YtdaojlipkffigaaGreatDoor
set_option linter.unusedVariables false
set_option linter.unusedSimpArgs false
set_option maxRecDepth 100000
open Go Go.RowKit
theorem objLoop_congr {F F' : List FD} {get : Nat → List UInt8 → Option (Rd1 × List UInt8)} (hl : F.length = F'.length) (hk : ∀ i, (F.getD i fd0).key = (F'.getD i fd0).key) (hm : ∀ i, (F.getD i fd0).must = (F'.getD i fd0).must) : ∀ (n fr : Nat) (ks : List (List UInt8)) (rs : List (Nat × Rd1)) (l : List UInt8), objLoop F get n fr ks rs l = objLoop F' get n fr ks rs l
  | 0, fr, ks, rs, l => by
    simp only [objLoop, allThere, hl, hk, hm]
    rfl
  | n + 1, fr, ks, rs, l => by
    simp only [objLoop, keyIdx, hl, hk]
    simp only [objLoop_congr hl hk hm n]
    rfl
theorem objOf_congr {F F' : List FD} {get : Nat → List UInt8 → Option (Rd1 × List UInt8)} (hl : F.length = F'.length) (hk : ∀ i, (F.getD i fd0).key = (F'.getD i fd0).key) (hm : ∀ i, (F.getD i fd0).must = (F'.getD i fd0).must) (l : List UInt8) : objOf F get l = objOf F' get l := by
  simp only [objOf, objLoop_congr hl hk hm]
def msgObj (S : List UInt8) : Option (List (Nat × Rd1) × List UInt8) := objOf (msgF 0 0 0 0 0 0) msgGet S
theorem msgObj_eq (b0 b1 b2 b3 b4 b5 : Nat) (S : List UInt8) : objOf (msgF b0 b1 b2 b3 b4 b5) msgGet S = msgObj S := by
  unfold msgObj
  refine objOf_congr (F := msgF b0 b1 b2 b3 b4 b5) (F' := msgF 0 0 0 0 0 0) rfl (fun i => ?_) (fun i => ?_) S
  all_goals
    match i with
    | 0 => rfl
    | 1 => rfl
    | 2 => rfl
    | 3 => rfl
    | 4 => rfl
    | 5 => rfl
    | n + 6 => rfl
def msgOf (S : List UInt8) : Option (List (Nat × Rd1)) := match msgObj S with | some (rs, []) => some rs | _ => none
def EndV : List UInt8 → Value → Prop
  | [], v => v = .nilIface
  | _ :: _, v => ∃ p, v = .iface 243 (.pointer (some ⟨p, 0, none⟩))
theorem ErrT.lt {W : World} (h : ErrT W) : 5 < W.heap.size := by
  rcases Nat.lt_or_ge 5 W.heap.size with h' | h'
  · exact h'
  · simp [ErrT, World.cell?, Array.getElem?_eq_none h'] at h
def six_st (W : World) (xb : Nat) (rs : List (Nat × Rd1)) : World := (((((W.setCell ⟨xb, 0, none⟩ (.string (mkS (txtAt rs 1)))).setCell ⟨xb, 1, none⟩ (.string (mkS (txtAt rs 4)))).setCell ⟨xb, 2, none⟩ (.int .u64 (numAt rs 3 : Nat))).setCell ⟨xb, 3, none⟩ (.int .u64 (numAt rs 5 : Nat))).setCell ⟨xb, 4, none⟩ (.int .u64 (numAt rs 0 : Nat))).setCell ⟨xb, 5, none⟩ (.int .u64 (numAt rs 2 : Nat))
theorem six_blk (W : World) (xb : Nat) (rs : List (Nat × Rd1)) (cs : Array Value) (h : Blk W xb cs 24) (hc : cs.size = 6) : Blk (six_st W xb rs) xb (msgCells rs) 24 := by
  have := (((((h.set 0 (.string (mkS (txtAt rs 1)))).set 1 (.string (mkS (txtAt rs 4)))).set 2 (.int .u64 (numAt rs 3 : Nat))).set 3 (.int .u64 (numAt rs 5 : Nat))).set 4 (.int .u64 (numAt rs 0 : Nat))).set 5 (.int .u64 (numAt rs 2 : Nat))
  rwa [six_set cs hc] at this
theorem six_far {W : World} {xb e : Nat} {rs : List (Nat × Rd1)} {cs : Array Value} {t : TypeId} (h : Blk W e cs t) (hne : xb ≠ e) : Blk (six_st W xb rs) e cs t :=
  (((((h.far (p := ⟨xb, 0, none⟩) hne _).far (p := ⟨xb, 1, none⟩) hne _).far (p := ⟨xb, 2, none⟩) hne _).far (p := ⟨xb, 3, none⟩) hne _).far (p := ⟨xb, 4, none⟩) hne _).far (p := ⟨xb, 5, none⟩) hne _
theorem six_but {a W : World} {xb : Nat} {rs : List (Nat × Rd1)} {L : List Nat} (h : But L a W) (hm : xb ∈ L) : But L a (six_st W xb rs) :=
  (((((h.setCell (p := ⟨xb, 0, none⟩) (Or.inl hm) _).setCell (p := ⟨xb, 1, none⟩) (Or.inl hm) _).setCell (p := ⟨xb, 2, none⟩) (Or.inl hm) _).setCell (p := ⟨xb, 3, none⟩) (Or.inl hm) _).setCell (p := ⟨xb, 4, none⟩) (Or.inl hm) _).setCell (p := ⟨xb, 5, none⟩) (Or.inl hm) _
section
variable {P : Program} {ops : Array Oper} {Q : Exit → Act → World → Prop} {md : Region.Mode} {B : List Nat}
theorem wpAnyB_store {i : Nat} {o : Oper} {fuel : Nat} {listed : Array Bool} {a : Act} {w : World} {f : World → World} (hi : ops[i]? = some o)
    (hr : Region.ready md ops listed = [i]) (hB : B.contains i = true) (hw : Region.wanted o (yielded ops a.tmps) = true)
    (h : ∀ w1, Later w w1 → (execOp a.eval o).run P w1 = .ok .skip (f w1))
    (hk : ∀ w1, Later w w1 → wpAnyB P md ops Q B fuel (listed.setIfInBounds i true) (a.put o.dst undef) (f w1)) : wpAnyB P md ops Q B (fuel + 1) listed a w := by
  refine wpAnyB_last hr fun w1 hl => ?_
  unfold Go.wpOp
  simp only [hi, hw, if_true, Oper.wp, h w1 hl, Oper.upon]
  exact .inl ⟨fun hn => absurd (by simpa using hB) hn, hk w1 hl⟩
end
section
variable {P : Program} {ops : Array Oper} {Q : Exit → Act → World → Prop} {md : Region.Mode} {B : List Nat}
theorem wpAnyB_one {i : Nat} {o : Oper} {fuel : Nat} {listed : Array Bool} {a : Act} {w : World} {v : Value} (hi : ops[i]? = some o)
    (hr : Region.ready md ops listed = [i]) (hw : Region.wanted o (yielded ops a.tmps) = true)
    (h : ∀ w1, Later w w1 → (execOp a.eval o).run P w1 = .ok (.value v) w1)
    (hk : ∀ w1, Later w w1 → wpAnyB P md ops Q B fuel (listed.setIfInBounds i true) (a.put o.dst v) w1) : wpAnyB P md ops Q B (fuel + 1) listed a w := by
  refine wpAnyB_last hr fun w1 hl => ?_
  unfold Go.wpOp
  simp only [hi, hw, if_true, Oper.wp, h w1 hl, Oper.upon]
  exact .inl ⟨fun _ => Later.refl _, hk w1 hl⟩
end
def MsgEnd (S : List UInt8) (e : Ending) : Prop := match msgOf S with
  | some rs => e = .returned (.tuple #[.agg (msgCells rs), .nilIface])
  | none => ∃ p rs, e = .returned (.tuple #[.agg (msgCells rs), .iface 243 (.pointer (some ⟨p, 0, none⟩))])
set_option maxHeartbeats 1000000 in
theorem readMsg1 (B : Nat) (S : List UInt8) (W : World) (hS : S.length < 4000000000000000000) (hT : Tabs B W) (hB : B ≤ W.heap.size) (hE : ErrT W) :
    Calls Tryz.prog 69 #[.string (mkS S), .func (.func 32) #[] #[]] W fun e w' => But [] W w' ∧ MsgEnd S e := by
  have hmf : ∀ (fn : Fn) (first cap : Array Value) (w : World), (Instr.makeFunc fn first cap).run Tryz.prog w = .ok (.func fn first cap) w := fun _ _ _ _ => rfl
  have B0 := Shut.mk (((But.refl [] W).alloc (.cells msg0 24)).alloc (.cells #[.nilIface] 70))
  have X0 := Shut.mk ((Blk.new W msg0 24).alloc (.cells #[.nilIface] 70))
  have E0' := Blk.new (W.alloc (.cells msg0 24)) #[.nilIface] 70
  rw [World.size_alloc] at E0'
  have E0 := Shut.mk E0'
  have HT := Shut.mk hT
  have HE := Shut.mk hE
  have HSB := Shut.mk (And.intro hS hB)
  rw [msg0] at B0 X0 E0
  clear hT hE hS hB E0'
  go_enter_defers Tryz.func69, Tryz.ntmps69
  go_wp2_with fail
  generalize (W.alloc (.cells #[.string ⟨#[]⟩, .string ⟨#[]⟩, .int .u64 0, .int .u64 0, .int .u64 0, .int .u64 0] 24)).alloc (.cells #[.nilIface] 70) = W0 at *
  obtain ⟨xb, hxb⟩ : ∃ z, z = W.heap.size := ⟨_, rfl⟩
  rw [← hxb] at X0 E0 ⊢
  have HXB := Shut.mk hxb
  clear hxb
  refine (new_any S W0).mono ?_
  rintro e w1 ⟨g, rfl, hg, hrd, hb1⟩
  have B1 := Shut.mk (hb1.alloc (.cells #[.pointer (some ⟨g, 0, none⟩)] 176))
  have R1 := Shut.mk (Blk.alloc hrd (.cells #[.pointer (some ⟨g, 0, none⟩)] 176))
  have Q1 := Shut.mk (Blk.new w1 #[.pointer (some ⟨g, 0, none⟩)] 176)
  have HG := Shut.mk hg
  have HZ1 : Shut (g < w1.heap.size) := ⟨hrd.lt⟩
  have hz0 : Shut (W0.heap.size ≤ w1.heap.size) := ⟨hb1.size⟩
  clear hb1 hrd hg
  go_upto_region 3 with fail
  generalize w1.alloc (.cells #[.pointer (some ⟨g, 0, none⟩)] 176) = w2 at *
  generalize w1.heap.size = gR at *
  have hcf : ∀ w, (callFunc 32 #[.pointer (some ⟨xb, 0, none⟩)]).run Tryz.prog w = .ok (.enter 32 #[.pointer (some ⟨xb, 0, none⟩)]) w := fun _ => rfl
  go_wp2_with fail
  refine (ofMsg_any xb w2).mono ?_
  rintro e w3 ⟨v, rfl, hm, hl⟩
  obtain ⟨gl, b0, b1, b2, b3, b4, b5, rfl, hf, hgl, h0, h1, h2, h3, h4, h5⟩ := hm
  have FL3 := Shut.mk hf
  have B23 : Shut (But [] w2 w3) := ⟨But.ofBelow hl⟩
  have hgz : Shut (g < gR ∧ gR < w2.heap.size ∧ xb < g ∧ xb + 1 < g ∧ xb = W.heap.size ∧ W0.heap.size ≤ g ∧ gR ≠ g) := ⟨by
    have h1 := Q1.out.lt
    have h2 := HG.out
    have h3 := HZ1.out
    have h4 := E0.out.lt
    have h5 := HXB.out
    omega⟩
  have B3 : Shut (But [] W0 w3) := ⟨B1.out.trans B23.out⟩
  have X3 := Shut.mk (X0.out.but B3.out (by simp))
  have E3 := Shut.mk (E0.out.but B3.out (by simp))
  have HE3 := Shut.mk (HE.out.but (B0.out.trans B3.out) (by simp))
  have RS3 : Shut (RS B gR g S w3 S) := ⟨{
    rd := by rw [Nat.sub_self]; exact R1.out.but B23.out (by simp)
    rR := Q1.out.but B23.out (by simp)
    suf := ⟨0, rfl⟩
    hS := HSB.out.1
    tabs := HT.out.below ((B0.out.trans B3.out).below HSB.out.2 (by simp))
    hB := Nat.le_trans HSB.out.2 (B0.out.trans B3.out).size
    hg := by have := HSB.out.2; have := hgz.out; omega
    hgR := by have := HSB.out.2; have := hgz.out; omega
    hne := hgz.out.2.2.2.2.2.2 }⟩
  have LV := Shut.mk (object_any (msgLvl (B := B) (gR := gR) (g := g) (gx := xb) (S := S) (W := w3) (SZ := w2.heap.size) (by have := hgz.out; have := HSB.out.2; omega) h0 h1 h2 h3 h4 h5) gl 6 msg0 RS3.out FL3.out X3.out ⟨rfl, fun p hp => by cases hp⟩ (by have := hgz.out; have := HSB.out.2; omega) (show 6 < 100 by omega) (fun i => by
    match i with
    | 0 => exact (by decide : 1 ≤ 1000000)
    | 1 => exact (by decide : 1 ≤ 1000000)
    | 2 => exact (by decide : 1 ≤ 1000000)
    | 3 => exact (by decide : 1 ≤ 1000000)
    | 4 => exact (by decide : 1 ≤ 1000000)
    | 5 => exact (by decide : 1 ≤ 1000000)
    | n + 6 => exact Nat.zero_le _) (Nat.le_refl _))
  rw [msgObj_eq] at LV
  have LV' : Shut (Calls Tryz.prog 128 #[.pointer (some ⟨gR, 0, none⟩), .slice (some ⟨gl, 0, none⟩) 6 6] w3 fun e w' => GetEnd B gR g S [xb] w3 (msgObj S) (fun rs w' => ∃ fr cs', Blk w' xb cs' 24 ∧ MsgOk fr rs cs') e w') := ⟨LV.out⟩
  clear LV h0 h1 h2 h3 h4 h5 hf hgl hl R1 Q1 B1 B23 hcf hz0 HZ1
  go_wp2_with fail
  refine LV'.out.mono ?_
  rintro e w4 ⟨hb4, hE⟩
  have B4 := Shut.mk hb4
  have E4 := Shut.mk (E3.out.but hb4 (by have := hgz.out; simp; omega))
  have HW : Shut (∀ w', But [xb, xb + 1] w4 w' → But [] W w') := ⟨fun w' hb => (B0.out.trans B3.out).trans2 ((hb4.mono (L' := [g, xb, xb + 1]) (fun k _ hk => by simp at hk ⊢; omega)).trans (hb.mono (L' := [g, xb, xb + 1]) (fun k _ hk => by simp at hk ⊢; omega))) (fun k hk => by have := hgz.out; have := B0.out.size; simp at hk; omega)⟩
  have hxe : xb ≠ xb + 1 := by omega
  clear LV' hb4
  rcases hO : msgObj S with _ | ⟨rs, rest⟩
  · rw [hO] at hE
    obtain ⟨p, rfl⟩ := hE
    obtain ⟨cs4, hcs4, X4⟩ := B4.out.shape xb _ _ (Or.inl rfl) X3.out
    go_wp2_with fail
    show Leaves Tryz.prog _ _ _ _ _ _
    refine leaves_cons (f := 126) (args := #[.pointer (some ⟨xb, 0, none⟩), .pointer (some ⟨xb + 1, 0, none⟩)]) (by simp) (by simp [go_sem]) ?_
    refine (catchMsg_panic xb (xb + 1) cs4 hcs4 [] p w4 X4 E4.out hxe).mono ?_
    rintro e u' w5 ⟨rfl, rfl, hx5, he5, hb5⟩
    have hd5 := HW.out w5 hb5
    have x0 := hx5.cell 0 rfl
    have x1 := hx5.cell 1 rfl
    have x2 := hx5.cell 2 rfl
    have x3 := hx5.cell 3 rfl
    have x4 := hx5.cell 4 rfl
    have x5 := hx5.cell 5 rfl
    have e0 := he5.cell 0 rfl
    simp only [settle, List.dropWhile_nil, Leaves]
    refine ⟨.tuple #[.agg msg0, .iface 243 (.pointer (some ⟨p, 0, none⟩))], ?_, hd5, ?_⟩
    · simp [results, Tryz.results69, go_sem, x0, x1, x2, x3, x4, x5, e0, msg0]
    · simp only [MsgEnd, msgOf, hO]
      exact ⟨p, [], rfl⟩
  · rw [hO] at hE
    obtain ⟨rfl, hr4, fr, cs4, X4, hok⟩ := hE
    obtain ⟨rfl, _⟩ := hok
    have R4 := Shut.mk hr4
    rw [msgCells] at X4
    have X4 := Shut.mk X4
    have EV : Shut (∀ W', But [] w4 W' → Calls Tryz.prog 129 #[.pointer (some ⟨g, 0, none⟩)] W' fun e w' => ∃ v, e = .returned v ∧ Later W' w' ∧ EndV rest v) := ⟨fun W' hb => by
      have hr := R4.out.zero hb
      have hsuf := suf_drop hr.suf
      have hrd := hr.rd
      rcases rest with _ | ⟨b, r⟩
      · refine (end_ok g _ _ S W' hrd (by omega) hsuf).mono ?_
        rintro e w' ⟨rfl, hb'⟩
        exact ⟨_, rfl, hb'.later, rfl⟩
      · refine (end_bad g _ _ S W' ((HE3.out.but B4.out (by have := hgz.out; have := HSB.out.2; have := HE.out.lt; simp; omega)).but hb (by simp)) hrd (by omega) b r hsuf).mono ?_
        rintro e w' ⟨⟨p, rfl⟩, hb'⟩
        exact ⟨_, rfl, hb'.later, p, rfl⟩⟩
    have r0 := R4.out.rR.cell 0 rfl
    have RR4 : Shut (∀ W', But [] w4 W' → W'.cell? ⟨gR, 0, none⟩ = some (.pointer (some ⟨g, 0, none⟩))) := ⟨fun W' hb => (R4.out.rR.but hb (by simp)).cell 0 rfl⟩
    clear r0
    go_wp2_with fail
    have hd := Later.drew' w4
    refine wp_region_on (by kernel_rfl) [6, 7] ?_
    refine wpAnyB_take (i := 0) (v := ?_) rfl (by kernel_rfl) (by kernel_rfl) (by kernel_rfl) (fun _ _ _ h => h) (by kernel_rfl) (fix_value (by rfl) ?_) ?_
    rotate_left
    · (intro W1 hl; have hx := X4.out.but (But.ofBelow (hd.trans hl)) (by simp); have x0 := hx.cell 0 rfl; have x1 := hx.cell 1 rfl; have x2 := hx.cell 2 rfl; have x3 := hx.cell 3 rfl; have x4 := hx.cell 4 rfl; have x5 := hx.cell 5 rfl; clear hx; go_simp <;> with_reducible rfl)
    try simp only [List.getElem_toArray, List.getElem_cons_zero, List.getElem_cons_succ, Act.put, List.setIfInBounds_toArray, List.set_cons_zero, List.set_cons_succ]
    refine wpAnyB_one (i := 1) (v := ?_) rfl (by kernel_rfl) (by rfl) ?_ (fun W11 hl => ?_)
    rotate_left
    · (intro W1 hl; go_simp <;> with_reducible rfl)
    rotate_left
    replace hd := hd.trans hl
    clear hl
    try simp only [List.getElem_toArray, List.getElem_cons_zero, List.getElem_cons_succ, Act.put, List.setIfInBounds_toArray, List.set_cons_zero, List.set_cons_succ]
    refine wpAnyB_one (i := 2) (v := ?_) rfl (by kernel_rfl) (by rfl) ?_ (fun W12 hl => ?_)
    rotate_left
    · (intro W1 hl; go_simp <;> with_reducible rfl)
    rotate_left
    replace hd := hd.trans hl
    clear hl
    try simp only [List.getElem_toArray, List.getElem_cons_zero, List.getElem_cons_succ, Act.put, List.setIfInBounds_toArray, List.set_cons_zero, List.set_cons_succ]
    refine wpAnyB_one (i := 3) (v := ?_) rfl (by kernel_rfl) (by rfl) ?_ (fun W13 hl => ?_)
    rotate_left
    · (intro W1 hl; go_simp <;> with_reducible rfl)
    rotate_left
    replace hd := hd.trans hl
    clear hl
    try simp only [List.getElem_toArray, List.getElem_cons_zero, List.getElem_cons_succ, Act.put, List.setIfInBounds_toArray, List.set_cons_zero, List.set_cons_succ]
    refine wpAnyB_one (i := 4) (v := ?_) rfl (by kernel_rfl) (by rfl) ?_ (fun W14 hl => ?_)
    rotate_left
    · (intro W1 hl; have q0 := RR4.out _ (But.ofBelow (hd.trans hl)); go_simp <;> with_reducible rfl)
    rotate_left
    replace hd := hd.trans hl
    clear hl
    try simp only [List.getElem_toArray, List.getElem_cons_zero, List.getElem_cons_succ, Act.put, List.setIfInBounds_toArray, List.set_cons_zero, List.set_cons_succ]
    refine wpAnyB_call (i := 5) (R := fun _ v _ => EndV rest v) rfl (by kernel_rfl) (by rfl) (fun W1 hl => EV.out W1 (But.ofBelow (hd.trans hl))) (fun W1 hl => ?_) (fun W1 v W2 hl hl2 hv => ?_)
    · go_simp <;> with_reducible rfl
    try simp only [List.getElem_toArray, List.getElem_cons_zero, List.getElem_cons_succ, Act.put, List.setIfInBounds_toArray, List.set_cons_zero, List.set_cons_succ]
    have L2 := Shut.mk (hd.trans (hl.trans hl2))
    have HV := Shut.mk hv
    clear hl hl2 hv hd
    refine wpAnyB_store (i := 6) (f := fun W => six_st W xb rs) rfl (by kernel_rfl) (by kernel_rfl) (by rfl) (fun W1 hl => ?_) (fun W1 hl => ?_)
    · have hx := X4.out.but (But.ofBelow (L2.out.trans hl)) (by simp)
      have x0 := hx.cell 0 rfl
      have x1 := hx.cell 1 rfl
      have x2 := hx.cell 2 rfl
      have x3 := hx.cell 3 rfl
      have x4 := hx.cell 4 rfl
      have x5 := hx.cell 5 rfl
      have f0 := hx.frozen 0
      have f1 := hx.frozen 1
      have f2 := hx.frozen 2
      have f3 := hx.frozen 3
      have f4 := hx.frozen 4
      have f5 := hx.frozen 5
      clear hx
      unfold six_st
      go_simp
    try simp only [List.getElem_toArray, List.getElem_cons_zero, List.getElem_cons_succ, Act.put, List.setIfInBounds_toArray, List.set_cons_zero, List.set_cons_succ]
    have X5 : Shut (Blk (six_st W1 xb rs) xb (msgCells rs) 24) := ⟨six_blk _ _ _ _ (X4.out.but (But.ofBelow (L2.out.trans hl)) (by simp)) rfl⟩
    have B5 : Shut (But [xb, xb + 1] w4 (six_st W1 xb rs)) := ⟨six_but (But.ofBelow (L2.out.trans hl)).nil (by simp)⟩
    have E5 : Shut (Blk (six_st W1 xb rs) (xb + 1) #[.nilIface] 70) := ⟨six_far (E4.out.but (But.ofBelow (L2.out.trans hl)) (by simp)) hxe⟩
    clear hl L2
    generalize six_st W1 xb rs = W5 at *
    refine wpAnyB_end (i := 7) (f := fun W => W.setCell ⟨xb + 1, 0, none⟩ v) rfl (by kernel_rfl) (by kernel_rfl) (by kernel_rfl) (by rfl) (fun W6 hl => ?_) (fun W6 W7 hl hl2 => ?_)
    · have he := E5.out.but (But.ofBelow hl) (by simp)
      have e0 := he.cell 0 rfl
      have f0 := he.frozen 0
      have hv := HV.out
      clear he
      cases rest with
      | nil => obtain rfl := hv; go_simp
      | cons b r => obtain ⟨p, rfl⟩ := hv; go_simp
    try simp only [List.getElem_toArray, List.getElem_cons_zero, List.getElem_cons_succ, Act.put, List.setIfInBounds_toArray, List.set_cons_zero, List.set_cons_succ]
    have X7 : Shut (Blk W7 xb (msgCells rs) 24) := ⟨((X5.out.but (But.ofBelow hl) (by simp)).far (p := ⟨xb + 1, 0, none⟩) (Ne.symm hxe) _).but (But.ofBelow hl2) (by simp)⟩
    have E7 : Shut (Blk W7 (xb + 1) #[v] 70) := ⟨((E5.out.but (But.ofBelow hl) (by simp)).set 0 v).but (But.ofBelow hl2) (by simp)⟩
    have B7 : Shut (But [xb, xb + 1] w4 W7) := ⟨((B5.out.trans (But.ofBelow hl).nil).setCell (p := ⟨xb + 1, 0, none⟩) (Or.inl (by simp)) v).trans (But.ofBelow hl2).nil⟩
    clear hl hl2 X5 E5 B5
    refine OnlyOn.normal ?_
    go_wp2_with fail
    show Leaves Tryz.prog _ _ _ _ _ _
    refine leaves_cons (f := 126) (args := #[.pointer (some ⟨xb, 0, none⟩), .pointer (some ⟨xb + 1, 0, none⟩)]) (by simp) (by simp [go_sem]) ?_
    refine (catchMsg_idle _ _ W7).mono ?_
    rintro e u' w8 ⟨rfl, rfl, rfl⟩
    have hx := X7.out
    rw [msgCells] at hx
    have x0 := hx.cell 0 rfl
    have x1 := hx.cell 1 rfl
    have x2 := hx.cell 2 rfl
    have x3 := hx.cell 3 rfl
    have x4 := hx.cell 4 rfl
    have x5 := hx.cell 5 rfl
    have e0 := E7.out.cell 0 rfl
    simp only [settle, Leaves]
    refine ⟨.tuple #[.agg (msgCells rs), v], ?_, HW.out _ B7.out, ?_⟩
    · simp [results, Tryz.results69, go_sem, x0, x1, x2, x3, x4, x5, e0, msgCells]
    · have hv := HV.out
      cases rest with
      | nil =>
        obtain rfl := hv
        simp only [MsgEnd, msgOf, hO]
      | cons b r =>
        obtain ⟨p, rfl⟩ := hv
        simp only [MsgEnd, msgOf, hO]
        exact ⟨p, _, rfl⟩
end Go.Proofs.YtdaojlipkffigaaGreatDoor
namespace Go.Proofs.YtdaojlipkffigaaGreatDoor
set_option linter.unusedVariables false
set_option linter.unusedSimpArgs false
set_option maxRecDepth 100000
open Go Go.RowKit
theorem six_butc {a W : World} {xb : Nat} {v0 v1 v2 v3 v4 v5 : Value} (h : But [] a W) (hm : a.heap.size ≤ xb) : But [] a ((((((W.setCell ⟨xb, 0, none⟩ v0).setCell ⟨xb, 1, none⟩ v1).setCell ⟨xb, 2, none⟩ v2).setCell ⟨xb, 3, none⟩ v3).setCell ⟨xb, 4, none⟩ v4).setCell ⟨xb, 5, none⟩ v5) :=
  (((((h.setCell (p := ⟨xb, 0, none⟩) (Or.inr hm) _).setCell (p := ⟨xb, 1, none⟩) (Or.inr hm) _).setCell (p := ⟨xb, 2, none⟩) (Or.inr hm) _).setCell (p := ⟨xb, 3, none⟩) (Or.inr hm) _).setCell (p := ⟨xb, 4, none⟩) (Or.inr hm) _).setCell (p := ⟨xb, 5, none⟩) (Or.inr hm) _
theorem overMsg_ok (rs : List (Nat × Rd1)) (W : World) : Calls Tryz.prog 68 #[.agg (msgCells rs), .nilIface] W fun e w' => e = .returned (.tuple #[.agg (msgCells rs), .nilIface]) ∧ But [] W w' := by
  rw [msgCells]
  generalize mkS (txtAt rs 1) = t1
  generalize mkS (txtAt rs 4) = t4
  generalize ((numAt rs 0 : Nat) : Int) = n0
  generalize ((numAt rs 2 : Nat) : Int) = n2
  generalize ((numAt rs 3 : Nat) : Int) = n3
  generalize ((numAt rs 5 : Nat) : Int) = n5
  have B0 := Shut.mk (((But.refl [] W).alloc (.cells #[.string t1, .string t4, .int .u64 n3, .int .u64 n5, .int .u64 n0, .int .u64 n2] 24)).alloc (.cells #[.string t1, .string t4, .int .u64 n3, .int .u64 n5, .int .u64 n0, .int .u64 n2] 24))
  go_enter Tryz.func68, Tryz.ntmps68
  go_wp2_with fail
  refine bodyPost_ret (v := .tuple #[.agg #[.string t1, .string t4, .int .u64 n3, .int .u64 n5, .int .u64 n0, .int .u64 n2], .nilIface]) (by simp [results, Tryz.results68, go_sem]) rfl ?_
  exact ⟨rfl, B0.out⟩
theorem overMsg_bad (rs : List (Nat × Rd1)) (p : Nat) (W : World) : Calls Tryz.prog 68 #[.agg (msgCells rs), .iface 243 (.pointer (some ⟨p, 0, none⟩))] W fun e w' => e = .returned (.tuple #[.agg (msgCells []), .iface 243 (.pointer (some ⟨p, 0, none⟩))]) ∧ But [] W w' := by
  rw [show msgCells [] = msg0 from rfl, msg0]
  rw [msgCells]
  generalize mkS (txtAt rs 1) = t1
  generalize mkS (txtAt rs 4) = t4
  generalize ((numAt rs 0 : Nat) : Int) = n0
  generalize ((numAt rs 2 : Nat) : Int) = n2
  generalize ((numAt rs 3 : Nat) : Int) = n3
  generalize ((numAt rs 5 : Nat) : Int) = n5
  have B0 := Shut.mk ((((But.refl [] W).alloc (.cells #[.string t1, .string t4, .int .u64 n3, .int .u64 n5, .int .u64 n0, .int .u64 n2] 24)).alloc (.cells #[.string ⟨#[]⟩, .string ⟨#[]⟩, .int .u64 0, .int .u64 0, .int .u64 0, .int .u64 0] 24)).alloc (.cells #[.string ⟨#[]⟩, .string ⟨#[]⟩, .int .u64 0, .int .u64 0, .int .u64 0, .int .u64 0] 24))
  go_enter Tryz.func68, Tryz.ntmps68
  go_wp2_with fail
  refine bodyPost_ret (v := .tuple #[.agg #[.string ⟨#[]⟩, .string ⟨#[]⟩, .int .u64 0, .int .u64 0, .int .u64 0, .int .u64 0], .iface 243 (.pointer (some ⟨p, 0, none⟩))]) (by simp [results, Tryz.results68, go_sem]) rfl ?_
  exact ⟨rfl, B0.out⟩
def MsgAns (S : List UInt8) (v : Value) : Prop := match msgOf S with
  | some rs => v = .tuple #[.agg (msgCells rs), .nilIface]
  | none => ∃ p, v = .tuple #[.agg (msgCells []), .iface 243 (.pointer (some ⟨p, 0, none⟩))]
theorem readMsg_any (B : Nat) (S : List UInt8) (W : World) (hS : S.length < 4000000000000000000) (hT : Tabs B W) (hB : B ≤ W.heap.size) (hE : ErrT W) :
    Calls Tryz.prog 33 #[.string (mkS S)] W fun e w' => ∃ v, e = .returned v ∧ MsgAns S v ∧ But [] W w' := by
  have B0 := Shut.mk ((But.refl [] W).alloc (.cells msg0 24))
  have X0 := Shut.mk (Blk.new W msg0 24)
  rw [msg0] at B0 X0
  have HT := Shut.mk hT
  have HE := Shut.mk hE
  have HSB := Shut.mk (And.intro hS hB)
  clear hT hE hS hB
  go_enter Tryz.func33, Tryz.ntmps33
  go_wp2_with fail
  generalize W.alloc (.cells #[.string ⟨#[]⟩, .string ⟨#[]⟩, .int .u64 0, .int .u64 0, .int .u64 0, .int .u64 0] 24) = W0 at *
  generalize hz : W.heap.size = xb at *
  refine (readMsg1 B S W0 HSB.out.1 (HT.out.below (B0.out.below (by rw [hz]; exact HSB.out.2) (by simp))) (Nat.le_trans (by rw [hz]; exact HSB.out.2) B0.out.size) (HE.out.but B0.out (by simp))).mono ?_
  rintro e w1 ⟨hb1, hE⟩
  have X1 := Shut.mk (X0.out.but hb1 (by simp))
  have B1 := Shut.mk (B0.out.trans hb1)
  have HXZ : Shut (W.heap.size ≤ xb) := ⟨by omega⟩
  clear hb1 hz
  rcases ho : msgOf S with _ | rs
  · have hE2 := hE
    simp only [MsgEnd, ho] at hE2
    obtain ⟨p, rs, rfl⟩ := hE2
    have MA : Shut (MsgAns S (.tuple #[.agg (msgCells []), .iface 243 (.pointer (some ⟨p, 0, none⟩))])) := ⟨by simp only [MsgAns, ho]; exact ⟨p, rfl⟩⟩
    clear hE ho
    go_wp2_with fail
    refine (overMsg_bad rs p w1).mono ?_
    rintro e w2 ⟨rfl, hb2⟩
    have X2 := Shut.mk (X1.out.but hb2 (by simp))
    have B2 := Shut.mk (B1.out.trans hb2)
    clear hb2
    revert MA
    rw [show msgCells [] = msg0 from rfl, msg0]
    intro MA
    have c0 := X2.out.cell 0 rfl
    have c1 := X2.out.cell 1 rfl
    have c2 := X2.out.cell 2 rfl
    have c3 := X2.out.cell 3 rfl
    have c4 := X2.out.cell 4 rfl
    have c5 := X2.out.cell 5 rfl
    have f0 := X2.out.frozen 0
    have f1 := X2.out.frozen 1
    have f2 := X2.out.frozen 2
    have f3 := X2.out.frozen 3
    have f4 := X2.out.frozen 4
    have f5 := X2.out.frozen 5
    go_wp2_with fail
    refine bodyPost_ret (v := .tuple #[.agg #[.string ⟨#[]⟩, .string ⟨#[]⟩, .int .u64 0, .int .u64 0, .int .u64 0, .int .u64 0], .iface 243 (.pointer (some ⟨p, 0, none⟩))]) ?_ rfl ?_
    · simp [results, Tryz.results33, go_sem, c0, c1, c2, c3, c4, c5]
    exact ⟨_, rfl, MA.out, six_butc B2.out HXZ.out⟩
  · have hE2 := hE
    simp only [MsgEnd, ho] at hE2
    subst hE2
    have MA : Shut (MsgAns S (.tuple #[.agg (msgCells rs), .nilIface])) := ⟨by simp only [MsgAns, ho]⟩
    clear hE ho
    go_wp2_with fail
    refine (overMsg_ok rs w1).mono ?_
    rintro e w2 ⟨rfl, hb2⟩
    have X2 := Shut.mk (X1.out.but hb2 (by simp))
    have B2 := Shut.mk (B1.out.trans hb2)
    clear hb2
    revert MA
    rw [msgCells]
    generalize mkS (txtAt rs 1) = t1
    generalize mkS (txtAt rs 4) = t4
    generalize ((numAt rs 0 : Nat) : Int) = n0
    generalize ((numAt rs 2 : Nat) : Int) = n2
    generalize ((numAt rs 3 : Nat) : Int) = n3
    generalize ((numAt rs 5 : Nat) : Int) = n5
    intro MA
    have c0 := X2.out.cell 0 rfl
    have c1 := X2.out.cell 1 rfl
    have c2 := X2.out.cell 2 rfl
    have c3 := X2.out.cell 3 rfl
    have c4 := X2.out.cell 4 rfl
    have c5 := X2.out.cell 5 rfl
    have f0 := X2.out.frozen 0
    have f1 := X2.out.frozen 1
    have f2 := X2.out.frozen 2
    have f3 := X2.out.frozen 3
    have f4 := X2.out.frozen 4
    have f5 := X2.out.frozen 5
    go_wp2_with fail
    refine bodyPost_ret (v := .tuple #[.agg #[.string t1, .string t4, .int .u64 n3, .int .u64 n5, .int .u64 n0, .int .u64 n2], .nilIface]) ?_ rfl ?_
    · simp [results, Tryz.results33, go_sem, c0, c1, c2, c3, c4, c5]
    exact ⟨_, rfl, MA.out, six_butc B2.out HXZ.out⟩
end Go.Proofs.YtdaojlipkffigaaGreatDoor
