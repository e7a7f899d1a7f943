/- HZh, HZg, HZi, JE, IQ, JA: merged by merge.py. -/
import Derived.Test.YtdaojlipkffigaaGreatDoorCB27
import Derived.Test.YtdaojlipkffigaaGreatDoorCB19
import Derived.Test.YtdaojlipkffigaaGreatDoorCB26
import Derived.Test.YtdaojlipkffigaaGreatDoorCB24
import Derived.OpenShut
import Derived.Deep.Slices
import Derived.Deep.Fields
import Derived.ChangeSame
namespace Go.Proofs.YtdaojlipkffigaaGreatDoor
set_option linter.unusedVariables false
open Go Go.RowKit
theorem wp_range_none {P : Program} {g : Operand} {ps : Array Tmp} {assign body : Code} {Q : Exit → Act → World → Prop} {a : Act} {w : World}
    {gf : Nat} {lb : Array Value} (hg : a.eval g = .func (.func gf) #[] lb) (eg : ∀ args w, (callFunc gf args).run P w = .ok (.enter gf args) w)
    (J : World → Prop) (hJ : OwnFrom w.heap.size (fun (_ : List Empty) W => J W)) (h0 : J w)
    (hiter : ∀ y W, J W → Calls P gf (#[y] ++ lb) W fun e W' => (∃ v, e = .returned v) ∧ J W' ∧ KeepsFrom w.heap.size W W')
    (hdone : ∀ W, J W → W.heap[w.heap.size]? = some (.deferred (some [])) → Q .normal { a with defers := { target := .collected w.heap.size, args := #[] } :: a.defers } W) :
    (Code.rangeFunc g ps assign body).wp P Q a w := by
  refine (wpIn_wide (n := 3)).1 ?_
  refine wpIn_rangeFunc_inv (α := Empty) rfl (by omega) hg trivial eg (encs := fun x => x.elim) (fun x => x.elim) (S := fun _ => True) (fun _ W => J W) (fun _ _ => False) (fun _ _ _ => False) hJ (fun _ _ _ _ _ h => h.elim) (fun _ _ _ _ _ _ h => h.elim) h0 (fun x => x.elim) (fun _ x => x.elim) (fun _ _ x => x.elim) ?_ (fun xs W _ hI hd => hdone W hI hd) (fun _ _ _ h => h.elim)
  intro l R Rx hl hR hRx hlt hy W hI hr
  refine callsIn_wide.2 ((hiter _ W hI).mono ?_)
  rintro e W' ⟨hv, hj, hk⟩
  exact ⟨hv, Or.inl ⟨[], trivial, hj, hR _ _ hr hk⟩⟩
theorem calls_of_wp_marks {P : Program} {f : FuncId} {fn : Func} {c : Code} {args : Array Value} {w : World} {R : Ending → World → Prop} (hf : P.funcs[f]? = some fn) (hb : fn.body = some c)
    (h : c.wp P (bodyPostM Fence.wide 3 P fn R) { tmps := args ++ Array.replicate (fn.ntmps - args.size) undef, defers := [] } w) : Calls P f args w R :=
  (callsIn_wide (n := 3)).1 (callsIn_of_wp_marks hf hb trivial (wpIn_wide.2 h) rfl)
theorem But.putObj {L : List Nat} {a w : World} (h : But L a w) {l : Nat} (hl : a.heap.size ≤ l) (o : Obj) : But L a (w.putObj l o) := by
  have g := grownBy_putObj' w l o
  have hb : ∀ k, k < a.heap.size → (w.putObj l o).heap[k]? = w.heap[k]? := fun k hk => World.putObj_heap_other (by omega)
  refine ⟨h.os, h.tape, h.output, Nat.le_trans h.size (by simp), fun k hk hn => (hb k hk).trans (h.block k hk hn), fun k cs t ht hk => ?_⟩
  obtain ⟨c1, e1, b1⟩ := h.shape k cs t ht hk
  exact ⟨c1, e1, (hb k hk.lt0).trans b1⟩
end Go.Proofs.YtdaojlipkffigaaGreatDoor
namespace Go.Proofs.YtdaojlipkffigaaGreatDoor
set_option linter.unusedVariables false
set_option linter.unusedSimpArgs false
set_option maxRecDepth 100000
open Go Go.RowKit
set_option maxHeartbeats 2000000 in
theorem wdig_empty (gw : Nat) (b : Int) (W : World) (hx : Blk W gw (winZ b) 96) :
    Calls Tryz.prog 27 #[.pointer (some ⟨gw, 0, none⟩)] W fun e w' => e = .returned (.string (mkS winDig)) ∧ But [] W w' := by
  have c97 : W.cell? ⟨gw, 97, none⟩ = some (.int .i64 0) := hx.cell 97 rfl
  have NU := Shut.mk (fun w1 => dnum_any 0 (by decide) w1)
  have HH := Shut.mk (fun W1 g (hs : Txs W1 (some ⟨g, 0, none⟩) [beLen 0]) => hash_any [119, 105, 110, 100, 111, 119] [beLen 0] (some ⟨g, 0, none⟩) 1 1 W1 rfl (by decide) (by decide) hs (by decide) (by decide))
  have HX := Shut.mk hx
  clear hx
  have hr : hashOf [119, 105, 110, 100, 111, 119] [beLen 0] = winDig := rfl
  rw [hr] at HH
  clear hr
  generalize winDig = dg at *
  generalize hbz : beLen 0 = bz at *
  clear hbz
  refine calls_of_wp_marks Tryz.func27 rfl ?_
  simp only [Tryz.ntmps27, List.size_toArray, List.length_cons, List.length_nil, Nat.reduceAdd, Nat.reduceSub, Array.replicate_succ, Array.replicate_zero, List.push_toArray, List.append_toArray, List.nil_append, List.cons_append]
  go_wp2_with fail
  refine (NU.out _).mono ?_
  rintro e w1 ⟨rfl, hb⟩
  have X1 := Shut.mk (HX.out.but hb (by simp))
  have B1 := Shut.mk hb
  clear hb HX NU c97
  go_wp2_with fail
  refine (wall_any gw _).mono ?_
  rintro e w2 ⟨rfl, hw2⟩
  have X2 : Shut (Blk w2 gw (winZ b) 96) := ⟨by rw [hw2]; exact ((X1.out.alloc _).alloc _).alloc _⟩
  go_wp2_with fail
  have N2 : Shut (Blk w2 (w1.heap.size + 1 + 1) #[.pointer (some ⟨gw, 0, none⟩)] 57) := ⟨by rw [hw2]; have := Blk.new ((w1.alloc (.cells #[.string (mkS bz)] 9)).alloc (.cells #[.slice (some ⟨w1.heap.size, 0, none⟩) 1 1] 52)) #[.pointer (some ⟨gw, 0, none⟩)] 57; simpa using this⟩
  have N1 : Shut (Blk w2 (w1.heap.size + 1) #[.slice (some ⟨w1.heap.size, 0, none⟩) 1 1] 52) := ⟨by rw [hw2]; have := (Blk.new (w1.alloc (.cells #[.string (mkS bz)] 9)) #[.slice (some ⟨w1.heap.size, 0, none⟩) 1 1] 52).alloc (.cells #[.pointer (some ⟨gw, 0, none⟩)] 57); simpa using this⟩
  have N0 : Shut (Blk w2 w1.heap.size #[.string (mkS bz)] 9) := ⟨by rw [hw2]; exact ((Blk.new w1 #[.string (mkS bz)] 9).alloc _).alloc _⟩
  have B2 : Shut (But [] W w2) := ⟨by rw [hw2]; exact ((B1.out.alloc _).alloc _).alloc _⟩
  rw [← hw2]
  clear hw2
  refine wp_range_none rfl (fun _ _ => rfl) (fun W' => Below w2.heap.size w2 W') ((ownFrom_below (Nat.le_refl _) (Nat.le_refl _))) (Below.refl _ _) ?_ ?_
  · intro y W1 hl
    exact (iter_empty y (w1.heap.size + 1 + 1) gw b W1 (N2.out.later hl) (X2.out.later hl)).mono (by
      rintro e w' ⟨rfl, h⟩
      exact ⟨⟨_, rfl⟩, Later.trans (show Later w2 W1 from hl) h, ⟨h.size, fun k o _ hk _ => by rw [← hk]; exact h.block k (Array.getElem?_eq_some_iff.1 hk).1⟩⟩)
  intro W3 hl hd
  have c52 : W3.cell? ⟨w1.heap.size + 1, 0, none⟩ = some (.slice (some ⟨w1.heap.size, 0, none⟩) 1 1) := (N1.out.later hl).cell 0 rfl
  have N3 := Shut.mk (N0.out.later hl)
  have B3 := Shut.mk (B2.out.trans (But.ofBelow hl))
  have HD := Shut.mk hd
  clear hl hd
  go_wp2_with fail
  have TX : Txs W3 (some ⟨w1.heap.size, 0, none⟩) [bz] := fun i hi => by
    have : i = 0 := by simp at hi; omega
    subst this
    exact ⟨w1.heap.size, 0, rfl, N3.out.cell 0 rfl⟩
  refine (HH.out _ w1.heap.size TX).mono ?_
  rintro e w4 ⟨rfl, hb⟩
  have B4 := Shut.mk (B3.out.trans hb)
  have H4 : Shut (w4.heap[w2.heap.size]? = some (.deferred (some []))) := ⟨(hb.block _ (Array.getElem?_eq_some_iff.1 HD.out).1 (by simp)).trans HD.out⟩
  have S2 : Shut (W.heap.size ≤ w2.heap.size) := ⟨B2.out.size⟩
  clear hb HD
  go_wp2_with fail
  trace_state
  refine ⟨by simp, .inl ⟨_, _, rfl, run_takeDeferred H4.out, ?_⟩⟩
  exact ⟨_, results_tmp rfl _ _ _, rfl, B4.out.putObj S2.out _⟩
end Go.Proofs.YtdaojlipkffigaaGreatDoor
namespace Go.Proofs.YtdaojlipkffigaaGreatDoor
set_option linter.unusedVariables false
set_option linter.unusedSimpArgs false
set_option maxRecDepth 100000
open Go Go.RowKit
set_option maxHeartbeats 2000000 in
theorem cdig_any (m : LM) (g gw s : Nat) (a b : Int) (B : Nat) (hm : m.ok) (hh : m.h.length = 32) (hp : m.p.length = 32) (W : World) (hT : PackT B W) (hB : B ≤ W.heap.size) (hx : Blk W g (pC m gw s a) 60) (hy : Blk W gw (winZ b) 96) :
    Calls Tryz.prog 10 #[.pointer (some ⟨g, 0, none⟩)] W fun e w' => e = .returned (.string (mkS (cliDig m))) ∧ But [] W w' := by
  have E := Shut.mk (encM_any m B W hT hB hm)
  have hv : msgV m = .tuple #[.string (mkS (wholeB (msgKv m))), .int .i64 0] := if_pos ⟨hh, hp⟩
  rw [hv] at E
  clear hv
  have HF := cliDig_framed (wholeB (msgKv m)) winDig (kvs_len m hm hh hp) winDig_length
  have HH := Shut.mk (fun W1 g1 (hs : Txs W1 (some ⟨g1, 0, none⟩) [wholeB (msgKv m), winDig]) => hash_any [99, 108, 105, 101, 110, 116] [wholeB (msgKv m), winDig] (some ⟨g1, 0, none⟩) 2 2 W1 rfl (by decide) (by decide) hs HF (by simp))
  have WD := Shut.mk (fun W1 (h : Blk W1 gw (winZ b) 96) => wdig_empty gw b W1 h)
  have hr : hashOf [99, 108, 105, 101, 110, 116] [wholeB (msgKv m), winDig] = cliDig m := rfl
  rw [hr] at HH
  clear hr HF
  generalize cliDig m = dg at *
  generalize wholeB (msgKv m) = mb at *
  generalize winDig = wd at *
  obtain ⟨h, p, c, w, f, l⟩ := m
  simp only [msgAgg] at E
  have c0 : W.cell? ⟨g, 0, none⟩ = some (.string (mkS h)) := hx.cell 0 rfl
  have c1 : W.cell? ⟨g, 1, none⟩ = some (.string (mkS p)) := hx.cell 1 rfl
  have c2 : W.cell? ⟨g, 2, none⟩ = some (.int .u64 (c : Nat)) := hx.cell 2 rfl
  have c3 : W.cell? ⟨g, 3, none⟩ = some (.int .u64 (w : Nat)) := hx.cell 3 rfl
  have c4 : W.cell? ⟨g, 4, none⟩ = some (.int .u64 (f : Nat)) := hx.cell 4 rfl
  have c5 : W.cell? ⟨g, 5, none⟩ = some (.int .u64 (l : Nat)) := hx.cell 5 rfl
  have HX := Shut.mk hx
  have HY := Shut.mk hy
  clear hx hy hm hh hp hT hB
  go_enter Tryz.func10, Tryz.ntmps10
  go_wp2_with fail
  refine E.out.mono ?_
  rintro e w1 ⟨rfl, hb⟩
  have X1 := Shut.mk (HX.out.but hb (by simp))
  have Y1 := Shut.mk (HY.out.but hb (by simp))
  have B1 := Shut.mk hb
  have d6 : w1.cell? ⟨g, 6, none⟩ = some (.pointer (some ⟨gw, 0, none⟩)) := X1.out.cell 6 rfl
  clear hb HX HY E c0 c1 c2 c3 c4 c5
  go_wp2_with fail
  refine (WD.out _ Y1.out).mono ?_
  rintro e w2 ⟨rfl, hb⟩
  have B2 := Shut.mk (B1.out.trans hb)
  clear hb X1 Y1 B1 d6 WD
  go_wp2_with fail
  refine (HH.out _ w2.heap.size (txs_two (Blk.new w2 #[.string (mkS mb), .string (mkS wd)] 9))).mono ?_
  rintro e w3 ⟨rfl, hb⟩
  have B3 := Shut.mk ((B2.out.alloc _).trans hb)
  clear hb
  go_wp2_with fail
  go_ret
  exact ⟨rfl, B3.out⟩
end Go.Proofs.YtdaojlipkffigaaGreatDoor
namespace Go.Proofs.YtdaojlipkffigaaGreatDoor
set_option linter.unusedVariables false
set_option linter.unusedSimpArgs false
set_option maxRecDepth 100000
open Go Go.RowKit
set_option maxHeartbeats 4000000 in
theorem begins_bad (m : LM) (s : Nat) (a b : Int) (B : Nat) (W : World) (hT : PackT B W) (hB : B ≤ W.heap.size) (hm : m.ok) (hs : s < 18446744073709551616) (hg : ¬ NewOk m s a b)
    (WK : ∀ w, But [] W w → Ret 12 #[] w (.bool true)) :
    Calls Tryz.prog 3 #[msgAgg m, .int .u64 (s : Nat), .agg #[.int .i64 a, .int .i64 b]] W fun r w' => r = .returned (.bool true) ∧ But [] W w' := by
  have B0 := Shut.mk (((But.refl [] W).alloc (.cells (mCells m) 24)).alloc (.cells (nCells a b) 25))
  have X0 := Shut.mk ((Blk.new W (mCells m) 24).alloc (.cells (nCells a b) 25))
  have Y0 := Shut.mk (Blk.new (W.alloc (.cells (mCells m) 24)) (nCells a b) 25)
  have E := Shut.mk (pnew_bad m s a b B ((W.alloc (.cells (mCells m) 24)).alloc (.cells (nCells a b) 25)) (hT.but B0.out) (Nat.le_trans hB B0.out.size) hm hs hg)
  have R := Shut.mk (fun w => rnew_bad m s a b hm hs hg w)
  have WK := Shut.mk WK
  clear hT hB hm hs hg
  obtain ⟨h, p, c, w, f, l⟩ := m
  simp only [mCells, nCells, msgAgg] at *
  go_enter Tryz.func3, Tryz.ntmps3
  go_wp2_with fail
  refine E.out.mono ?_
  rintro r w1 ⟨rfl, hb⟩
  have X1 := Shut.mk (X0.out.but hb (by simp))
  have Y1 := Shut.mk (Y0.out.but hb (by simp))
  have B1 := Shut.mk (B0.out.trans hb)
  have m0 : w1.cell? ⟨W.heap.size, 0, none⟩ = some (.string (mkS h)) := X1.out.cell 0 rfl
  have m1 : w1.cell? ⟨W.heap.size, 1, none⟩ = some (.string (mkS p)) := X1.out.cell 1 rfl
  have m2 : w1.cell? ⟨W.heap.size, 2, none⟩ = some (.int .u64 (c : Nat)) := X1.out.cell 2 rfl
  have m3 : w1.cell? ⟨W.heap.size, 3, none⟩ = some (.int .u64 (w : Nat)) := X1.out.cell 3 rfl
  have m4 : w1.cell? ⟨W.heap.size, 4, none⟩ = some (.int .u64 (f : Nat)) := X1.out.cell 4 rfl
  have m5 : w1.cell? ⟨W.heap.size, 5, none⟩ = some (.int .u64 (l : Nat)) := X1.out.cell 5 rfl
  have n0 : w1.cell? ⟨W.heap.size + 1, 0, none⟩ = some (.int .i64 a) := by have := Y1.out.cell 0 rfl; simpa using this
  have n1 : w1.cell? ⟨W.heap.size + 1, 1, none⟩ = some (.int .i64 b) := by have := Y1.out.cell 1 rfl; simpa using this
  clear hb E X0 Y0 B0
  go_wp2_with fail
  refine (R.out _).mono ?_
  rintro r w2 ⟨rfl, hb⟩
  have B2 := Shut.mk (B1.out.trans hb)
  clear hb R X1 Y1 B1 m0 m1 m2 m3 m4 m5 n0 n1
  go_wp2_with fail
  have BD : Shut (But [] W w2.drew) := ⟨B2.out.drew⟩
  refine wp_region_later (by kernel_rfl) [] ?_
  refine wpAnyB_take (i := 0) (v := ?_) rfl (by kernel_rfl) (by kernel_rfl) (by kernel_rfl) (fun _ _ _ h => h) (by kernel_rfl) (fix_value (by rfl) ?_) ?_
  rotate_left
  · (intro W1 hl; go_simp <;> with_reducible rfl)
  try simp only [List.getElem_toArray, List.getElem_cons_zero, List.getElem_cons_succ, Act.put, List.setIfInBounds_toArray, List.set_cons_zero, List.set_cons_succ]
  refine wpAnyB_take (i := 1) (v := ?_) rfl (by kernel_rfl) (by kernel_rfl) (by kernel_rfl) (fun _ _ _ h => h) (by kernel_rfl) (fix_value (by rfl) ?_) ?_
  rotate_left
  · (intro W1 hl; go_simp <;> with_reducible rfl)
  try simp only [List.getElem_toArray, List.getElem_cons_zero, List.getElem_cons_succ, Act.put, List.setIfInBounds_toArray, List.set_cons_zero, List.set_cons_succ]
  refine wpAnyB_take (i := 2) (v := ?_) rfl (by kernel_rfl) (by kernel_rfl) (by kernel_rfl) (fun _ _ _ h => h) (by kernel_rfl) (fix_value (by rfl) ?_) ?_
  rotate_left
  · (intro W1 hl; go_simp <;> with_reducible rfl)
  try simp only [List.getElem_toArray, List.getElem_cons_zero, List.getElem_cons_succ, Act.put, List.setIfInBounds_toArray, List.set_cons_zero, List.set_cons_succ]
  refine wpAnyB_take (i := 3) (v := undef) rfl (by kernel_rfl) (by kernel_rfl) (by kernel_rfl) (fun _ _ _ h => h) (by kernel_rfl) (Or.inr ⟨by rfl, rfl⟩) ?_
  try simp only [List.getElem_toArray, List.getElem_cons_zero, List.getElem_cons_succ, Act.put, List.setIfInBounds_toArray, List.set_cons_zero, List.set_cons_succ]
  refine wpAnyB_take (i := 4) (v := undef) rfl (by kernel_rfl) (by kernel_rfl) (by kernel_rfl) (fun _ _ _ h => h) (by kernel_rfl) (Or.inr ⟨by rfl, rfl⟩) ?_
  try simp only [List.getElem_toArray, List.getElem_cons_zero, List.getElem_cons_succ, Act.put, List.setIfInBounds_toArray, List.set_cons_zero, List.set_cons_succ]
  refine wpAnyB_take (i := 5) (v := undef) rfl (by kernel_rfl) (by kernel_rfl) (by kernel_rfl) (fun _ _ _ h => h) (by kernel_rfl) (Or.inr ⟨by rfl, rfl⟩) ?_
  try simp only [List.getElem_toArray, List.getElem_cons_zero, List.getElem_cons_succ, Act.put, List.setIfInBounds_toArray, List.set_cons_zero, List.set_cons_succ]
  refine wpAnyB_take (i := 6) (v := undef) rfl (by kernel_rfl) (by kernel_rfl) (by kernel_rfl) (fun _ _ _ h => h) (by kernel_rfl) (Or.inr ⟨by rfl, rfl⟩) ?_
  try simp only [List.getElem_toArray, List.getElem_cons_zero, List.getElem_cons_succ, Act.put, List.setIfInBounds_toArray, List.set_cons_zero, List.set_cons_succ]
  refine wpAnyB_take (i := 7) (v := undef) rfl (by kernel_rfl) (by kernel_rfl) (by kernel_rfl) (fun _ _ _ h => h) (by kernel_rfl) (Or.inr ⟨by rfl, rfl⟩) ?_
  try simp only [List.getElem_toArray, List.getElem_cons_zero, List.getElem_cons_succ, Act.put, List.setIfInBounds_toArray, List.set_cons_zero, List.set_cons_succ]
  refine wpAnyB_take (i := 8) (v := undef) rfl (by kernel_rfl) (by kernel_rfl) (by kernel_rfl) (fun _ _ _ h => h) (by kernel_rfl) (Or.inr ⟨by rfl, rfl⟩) ?_
  try simp only [List.getElem_toArray, List.getElem_cons_zero, List.getElem_cons_succ, Act.put, List.setIfInBounds_toArray, List.set_cons_zero, List.set_cons_succ]
  refine wpAnyB_take (i := 9) (v := undef) rfl (by kernel_rfl) (by kernel_rfl) (by kernel_rfl) (fun _ _ _ h => h) (by kernel_rfl) (Or.inr ⟨by rfl, rfl⟩) ?_
  try simp only [List.getElem_toArray, List.getElem_cons_zero, List.getElem_cons_succ, Act.put, List.setIfInBounds_toArray, List.set_cons_zero, List.set_cons_succ]
  refine wpAnyB_take (i := 10) (v := undef) rfl (by kernel_rfl) (by kernel_rfl) (by kernel_rfl) (fun _ _ _ h => h) (by kernel_rfl) (Or.inr ⟨by rfl, rfl⟩) ?_
  try simp only [List.getElem_toArray, List.getElem_cons_zero, List.getElem_cons_succ, Act.put, List.setIfInBounds_toArray, List.set_cons_zero, List.set_cons_succ]
  refine wpAnyB_take (i := 11) (v := undef) rfl (by kernel_rfl) (by kernel_rfl) (by kernel_rfl) (fun _ _ _ h => h) (by kernel_rfl) (Or.inr ⟨by rfl, rfl⟩) ?_
  try simp only [List.getElem_toArray, List.getElem_cons_zero, List.getElem_cons_succ, Act.put, List.setIfInBounds_toArray, List.set_cons_zero, List.set_cons_succ]
  refine wpAnyB_take (i := 12) (v := undef) rfl (by kernel_rfl) (by kernel_rfl) (by kernel_rfl) (fun _ _ _ h => h) (by kernel_rfl) (Or.inr ⟨by rfl, rfl⟩) ?_
  try simp only [List.getElem_toArray, List.getElem_cons_zero, List.getElem_cons_succ, Act.put, List.setIfInBounds_toArray, List.set_cons_zero, List.set_cons_succ]
  refine wpAnyB_take (i := 13) (v := undef) rfl (by kernel_rfl) (by kernel_rfl) (by kernel_rfl) (fun _ _ _ h => h) (by kernel_rfl) (Or.inr ⟨by rfl, rfl⟩) ?_
  try simp only [List.getElem_toArray, List.getElem_cons_zero, List.getElem_cons_succ, Act.put, List.setIfInBounds_toArray, List.set_cons_zero, List.set_cons_succ]
  refine wpAnyB_take (i := 14) (v := undef) rfl (by kernel_rfl) (by kernel_rfl) (by kernel_rfl) (fun _ _ _ h => h) (by kernel_rfl) (Or.inr ⟨by rfl, rfl⟩) ?_
  try simp only [List.getElem_toArray, List.getElem_cons_zero, List.getElem_cons_succ, Act.put, List.setIfInBounds_toArray, List.set_cons_zero, List.set_cons_succ]
  refine wpAnyB_take (i := 15) (v := undef) rfl (by kernel_rfl) (by kernel_rfl) (by kernel_rfl) (fun _ _ _ h => h) (by kernel_rfl) (Or.inr ⟨by rfl, rfl⟩) ?_
  try simp only [List.getElem_toArray, List.getElem_cons_zero, List.getElem_cons_succ, Act.put, List.setIfInBounds_toArray, List.set_cons_zero, List.set_cons_succ]
  refine wpAnyB_take (i := 16) (v := undef) rfl (by kernel_rfl) (by kernel_rfl) (by kernel_rfl) (fun _ _ _ h => h) (by kernel_rfl) (Or.inr ⟨by rfl, rfl⟩) ?_
  try simp only [List.getElem_toArray, List.getElem_cons_zero, List.getElem_cons_succ, Act.put, List.setIfInBounds_toArray, List.set_cons_zero, List.set_cons_succ]
  refine wpAnyB_take (i := 17) (v := undef) rfl (by kernel_rfl) (by kernel_rfl) (by kernel_rfl) (fun _ _ _ h => h) (by kernel_rfl) (Or.inr ⟨by rfl, rfl⟩) ?_
  try simp only [List.getElem_toArray, List.getElem_cons_zero, List.getElem_cons_succ, Act.put, List.setIfInBounds_toArray, List.set_cons_zero, List.set_cons_succ]
  refine wpAnyB_take (i := 18) (v := undef) rfl (by kernel_rfl) (by kernel_rfl) (by kernel_rfl) (fun _ _ _ h => h) (by kernel_rfl) (Or.inr ⟨by rfl, rfl⟩) ?_
  try simp only [List.getElem_toArray, List.getElem_cons_zero, List.getElem_cons_succ, Act.put, List.setIfInBounds_toArray, List.set_cons_zero, List.set_cons_succ]
  refine wpAnyB_take (i := 19) (v := undef) rfl (by kernel_rfl) (by kernel_rfl) (by kernel_rfl) (fun _ _ _ h => h) (by kernel_rfl) (Or.inr ⟨by rfl, rfl⟩) ?_
  try simp only [List.getElem_toArray, List.getElem_cons_zero, List.getElem_cons_succ, Act.put, List.setIfInBounds_toArray, List.set_cons_zero, List.set_cons_succ]
  refine wpAnyB_take (i := 20) (v := undef) rfl (by kernel_rfl) (by kernel_rfl) (by kernel_rfl) (fun _ _ _ h => h) (by kernel_rfl) (Or.inr ⟨by rfl, rfl⟩) ?_
  try simp only [List.getElem_toArray, List.getElem_cons_zero, List.getElem_cons_succ, Act.put, List.setIfInBounds_toArray, List.set_cons_zero, List.set_cons_succ]
  refine wpAnyB_take (i := 21) (v := undef) rfl (by kernel_rfl) (by kernel_rfl) (by kernel_rfl) (fun _ _ _ h => h) (by kernel_rfl) (Or.inr ⟨by rfl, rfl⟩) ?_
  try simp only [List.getElem_toArray, List.getElem_cons_zero, List.getElem_cons_succ, Act.put, List.setIfInBounds_toArray, List.set_cons_zero, List.set_cons_succ]
  refine wpAnyB_take (i := 22) (v := undef) rfl (by kernel_rfl) (by kernel_rfl) (by kernel_rfl) (fun _ _ _ h => h) (by kernel_rfl) (Or.inr ⟨by rfl, rfl⟩) ?_
  try simp only [List.getElem_toArray, List.getElem_cons_zero, List.getElem_cons_succ, Act.put, List.setIfInBounds_toArray, List.set_cons_zero, List.set_cons_succ]
  refine wpAnyB_take (i := 23) (v := undef) rfl (by kernel_rfl) (by kernel_rfl) (by kernel_rfl) (fun _ _ _ h => h) (by kernel_rfl) (Or.inr ⟨by rfl, rfl⟩) ?_
  try simp only [List.getElem_toArray, List.getElem_cons_zero, List.getElem_cons_succ, Act.put, List.setIfInBounds_toArray, List.set_cons_zero, List.set_cons_succ]
  refine wpAnyB_take (i := 24) (v := ?_) rfl (by kernel_rfl) (by kernel_rfl) (by kernel_rfl) (fun _ _ _ h => h) (by kernel_rfl) (fix_value (by rfl) ?_) ?_
  rotate_left
  · (intro W1 hl; go_simp <;> with_reducible rfl)
  try simp only [List.getElem_toArray, List.getElem_cons_zero, List.getElem_cons_succ, Act.put, List.setIfInBounds_toArray, List.set_cons_zero, List.set_cons_succ]
  refine wpAnyB_take (i := 25) (v := ?_) rfl (by kernel_rfl) (by kernel_rfl) (by kernel_rfl) (fun _ _ _ h => h) (by kernel_rfl) (fix_value (by rfl) ?_) ?_
  rotate_left
  · (intro W1 hl; go_simp <;> with_reducible rfl)
  try simp only [List.getElem_toArray, List.getElem_cons_zero, List.getElem_cons_succ, Act.put, List.setIfInBounds_toArray, List.set_cons_zero, List.set_cons_succ]
  refine wpAnyB_take (i := 26) (v := _) rfl (by kernel_rfl) (by kernel_rfl) (by kernel_rfl) (fun _ _ _ h => h) (by kernel_rfl) (fix_enter (by rfl) (fun W1 hl => (WK.out W1 (BD.out.trans (But.ofBelow hl))).mono (by rintro e w' ⟨rfl, h⟩; exact ⟨rfl, h.later⟩)) ?_) ?_
  · (intro W1 hl; go_simp <;> with_reducible rfl)
  try simp only [List.getElem_toArray, List.getElem_cons_zero, List.getElem_cons_succ, Act.put, List.setIfInBounds_toArray, List.set_cons_zero, List.set_cons_succ]
  refine wpAnyB_take (i := 27) (v := ?_) rfl (by kernel_rfl) (by kernel_rfl) (by kernel_rfl) (fun _ _ _ h => h) (by kernel_rfl) (fix_value (by rfl) ?_) ?_
  rotate_left
  · (intro W1 hl; go_simp <;> with_reducible rfl)
  try simp only [List.getElem_toArray, List.getElem_cons_zero, List.getElem_cons_succ, Act.put, List.setIfInBounds_toArray, List.set_cons_zero, List.set_cons_succ]
  refine wpAnyB_take (i := 28) (v := ?_) rfl (by kernel_rfl) (by kernel_rfl) (by kernel_rfl) (fun _ _ _ h => h) (by kernel_rfl) (fix_value (by rfl) ?_) ?_
  rotate_left
  · (intro W1 hl; go_simp <;> with_reducible rfl)
  try simp only [List.getElem_toArray, List.getElem_cons_zero, List.getElem_cons_succ, Act.put, List.setIfInBounds_toArray, List.set_cons_zero, List.set_cons_succ]
  refine wpAnyB_done (by kernel_rfl) (fun w3 hl4 => ?_) _
  try simp only [List.getElem_toArray, List.getElem_cons_zero, List.getElem_cons_succ, Act.put, List.setIfInBounds_toArray, List.set_cons_zero, List.set_cons_succ]
  have HL2 := Shut.mk (BD.out.trans (But.ofBelow hl4))
  clear hl4
  go_wp2_with fail
  go_ret
  exact ⟨rfl, HL2.out⟩
set_option maxHeartbeats 4000000 in
theorem begins_good (m : LM) (s : Nat) (a b : Int) (B : Nat) (W : World) (hT : PackT B W) (hB : B ≤ W.heap.size) (hm : m.ok) (hg : NewOk m s a b)
    (WK : ∀ w, But [] W w → Ret 12 #[] w (.bool true)) :
    Calls Tryz.prog 3 #[msgAgg m, .int .u64 (s : Nat), .agg #[.int .i64 a, .int .i64 b]] W fun r w' => r = .returned (.bool true) ∧ But [] W w' := by
  have hmay := hg.may
  have hh : m.h.length = 32 := by
    simp only [mayB, Bool.and_eq_true, decide_eq_true_iff] at hmay
    exact hmay.1.1.1.1.1.1.1
  have hp : m.p.length = 32 := by
    simp only [mayB, Bool.and_eq_true, decide_eq_true_iff] at hmay
    exact hmay.1.1.1.1.1.1.2
  have hl : m.l < 18446744073709551615 := by
    simp only [mayB, Bool.and_eq_true, decide_eq_true_iff] at hmay
    exact hmay.2
  have B0 := Shut.mk (((But.refl [] W).alloc (.cells (mCells m) 24)).alloc (.cells (nCells a b) 25))
  have X0 := Shut.mk ((Blk.new W (mCells m) 24).alloc (.cells (nCells a b) 25))
  have Y0 := Shut.mk (Blk.new (W.alloc (.cells (mCells m) 24)) (nCells a b) 25)
  have E := Shut.mk (pnew_good m s a b B ((W.alloc (.cells (mCells m) 24)).alloc (.cells (nCells a b) 25)) (hT.but B0.out) (Nat.le_trans hB B0.out.size) hm hg)
  have R := Shut.mk (fun w => rnew_good m s a b hm hg w)
  have WK := Shut.mk WK
  have PX : Shut (∀ g gw w1, Blk w1 g (pC m gw s a) 60 → ∀ w2, Later w1 w2 → Calls Tryz.prog 7 #[.pointer (some ⟨g, 0, none⟩)] w2 fun e w' => e = .returned (.int .u64 ((m.l + 1 : Nat) : Int)) ∧ Later w2 w') := ⟨fun g gw w1 hx w2 h => (pnext_any m g gw s a w2 (hx.later h) hl).mono (by rintro e w' ⟨rfl, rfl⟩; exact ⟨rfl, Later.refl _⟩)⟩
  have RX : Shut (∀ g gw w1, Blk w1 g (rC m gw s a) 37 → ∀ w2, Later w1 w2 → Calls Tryz.prog 8 #[.pointer (some ⟨g, 0, none⟩)] w2 fun e w' => e = .returned (.int .u64 ((m.l + 1 : Nat) : Int)) ∧ Later w2 w') := ⟨fun g gw w1 hx w2 h => (rnext_any m g gw s a w2 (hx.later h) hl).mono (by rintro e w' ⟨rfl, rfl⟩; exact ⟨rfl, Later.refl _⟩)⟩
  have TX : Shut (∀ g gw w1, Blk w1 g (pC m gw s a) 60 → ∀ w2, Later w1 w2 → Calls Tryz.prog 9 #[.pointer (some ⟨g, 0, none⟩)] w2 fun e w' => e = .returned (msgAgg m) ∧ Later w2 w') := ⟨fun g gw w1 hx w2 h => (trusted_any m g gw s a w2 (hx.later h)).mono (by rintro e w' ⟨rfl, hb⟩; exact ⟨rfl, hb.later⟩)⟩
  have DX : Shut (∀ g gw w1, But [] W w1 → Blk w1 g (pC m gw s a) 60 → Blk w1 gw (winZ b) 96 → ∀ w2, Later w1 w2 → Calls Tryz.prog 10 #[.pointer (some ⟨g, 0, none⟩)] w2 fun e w' => e = .returned (.string (mkS (cliDig m))) ∧ Later w2 w') := ⟨fun g gw w1 hb hx hy w2 h => (cdig_any m g gw s a b B hm hh hp w2 (hT.but (hb.trans (But.ofBelow h))) (Nat.le_trans hB (hb.trans (But.ofBelow h)).size) (hx.later h) (hy.later h)).mono (by rintro e w' ⟨rfl, hb⟩; exact ⟨rfl, hb.later⟩)⟩
  have GX : Shut (∀ g gw w1, Blk w1 g (rC m gw s a) 37 → Blk w1 gw (rwinZ b) 99 → ∀ w2, Later w1 w2 → Calls Tryz.prog 11 #[.pointer (some ⟨g, 0, none⟩)] w2 fun e w' => e = .returned (.string (mkS (cliDig m))) ∧ Later w2 w') := ⟨fun g gw w1 hx hy w2 h => (rcdig_any m g gw s a b hm hh hp w2 (hx.later h) (hy.later h)).mono (by rintro e w' ⟨rfl, hb⟩; exact ⟨rfl, hb.later⟩)⟩
  have EQ : ∀ w, (Op.equalIn 10000 24 (msgAgg m) (msgAgg m)).run Tryz.prog w = .ok true w := fun w => by
    have := equal_msg m m w
    rwa [show sameM m m = true from by simp [sameM]] at this
  clear hT hB hm hg hmay hh hp hl
  generalize cliDig m = dg at *
  generalize m.l + 1 = j at *
  obtain ⟨h, p, c, w, f, l⟩ := m
  simp only [mCells, nCells, msgAgg, pC, rC] at *
  go_enter Tryz.func3, Tryz.ntmps3
  go_wp2_with fail
  refine E.out.mono ?_
  rintro r w1 ⟨g, gw, rfl, hb, hg1, hg2, hx, hy⟩
  have X1 := Shut.mk (X0.out.but hb (by simp))
  have Y1 := Shut.mk (Y0.out.but hb (by simp))
  have B1 := Shut.mk (B0.out.trans hb)
  have C1 := Shut.mk hx
  have V1 := Shut.mk hy
  have m0 : w1.cell? ⟨W.heap.size, 0, none⟩ = some (.string (mkS h)) := X1.out.cell 0 rfl
  have m1 : w1.cell? ⟨W.heap.size, 1, none⟩ = some (.string (mkS p)) := X1.out.cell 1 rfl
  have m2 : w1.cell? ⟨W.heap.size, 2, none⟩ = some (.int .u64 (c : Nat)) := X1.out.cell 2 rfl
  have m3 : w1.cell? ⟨W.heap.size, 3, none⟩ = some (.int .u64 (w : Nat)) := X1.out.cell 3 rfl
  have m4 : w1.cell? ⟨W.heap.size, 4, none⟩ = some (.int .u64 (f : Nat)) := X1.out.cell 4 rfl
  have m5 : w1.cell? ⟨W.heap.size, 5, none⟩ = some (.int .u64 (l : Nat)) := X1.out.cell 5 rfl
  have n0 : w1.cell? ⟨W.heap.size + 1, 0, none⟩ = some (.int .i64 a) := by have := Y1.out.cell 0 rfl; simpa using this
  have n1 : w1.cell? ⟨W.heap.size + 1, 1, none⟩ = some (.int .i64 b) := by have := Y1.out.cell 1 rfl; simpa using this
  clear hb E X0 Y0 B0 hg1 hg2 hx hy
  go_wp2_with fail
  refine (R.out _).mono ?_
  rintro r w2 ⟨g', gw', rfl, hb, hg1, hg2, hx, hy⟩
  have B2 := Shut.mk (B1.out.trans hb)
  have C2 := Shut.mk (C1.out.but hb (by simp)).drew
  have V2 := Shut.mk (V1.out.but hb (by simp)).drew
  have C3 := Shut.mk hx.drew
  have V3 := Shut.mk hy.drew
  have M3 : Shut (∀ W1, Later w2.drew W1 → W1.cell? ⟨g', 0, none⟩ = some (.string (mkS h)) ∧ W1.cell? ⟨g', 1, none⟩ = some (.string (mkS p)) ∧ W1.cell? ⟨g', 2, none⟩ = some (.int .u64 (c : Nat)) ∧ W1.cell? ⟨g', 3, none⟩ = some (.int .u64 (w : Nat)) ∧ W1.cell? ⟨g', 4, none⟩ = some (.int .u64 (f : Nat)) ∧ W1.cell? ⟨g', 5, none⟩ = some (.int .u64 (l : Nat))) := ⟨fun W1 hl => ⟨(hx.drew.later hl).cell 0 rfl, (hx.drew.later hl).cell 1 rfl, (hx.drew.later hl).cell 2 rfl, (hx.drew.later hl).cell 3 rfl, (hx.drew.later hl).cell 4 rfl, (hx.drew.later hl).cell 5 rfl⟩⟩
  clear hb R X1 Y1 B1 C1 V1 hg1 hg2 hx hy m0 m1 m2 m3 m4 m5 n0 n1
  go_wp2_with fail
  have BD : Shut (But [] W w2.drew) := ⟨B2.out.drew⟩
  refine wp_region_later (by kernel_rfl) [] ?_
  refine wpAnyB_take (i := 0) (v := ?_) rfl (by kernel_rfl) (by kernel_rfl) (by kernel_rfl) (fun _ _ _ h => h) (by kernel_rfl) (fix_value (by rfl) ?_) ?_
  rotate_left
  · (intro W1 hl; go_simp <;> with_reducible rfl)
  try simp only [List.getElem_toArray, List.getElem_cons_zero, List.getElem_cons_succ, Act.put, List.setIfInBounds_toArray, List.set_cons_zero, List.set_cons_succ]
  refine wpAnyB_take (i := 1) (v := ?_) rfl (by kernel_rfl) (by kernel_rfl) (by kernel_rfl) (fun _ _ _ h => h) (by kernel_rfl) (fix_value (by rfl) ?_) ?_
  rotate_left
  · (intro W1 hl; go_simp <;> with_reducible rfl)
  try simp only [List.getElem_toArray, List.getElem_cons_zero, List.getElem_cons_succ, Act.put, List.setIfInBounds_toArray, List.set_cons_zero, List.set_cons_succ]
  refine wpAnyB_take (i := 2) (v := ?_) rfl (by kernel_rfl) (by kernel_rfl) (by kernel_rfl) (fun _ _ _ h => h) (by kernel_rfl) (fix_value (by rfl) ?_) ?_
  rotate_left
  · (intro W1 hl; go_simp <;> with_reducible rfl)
  try simp only [List.getElem_toArray, List.getElem_cons_zero, List.getElem_cons_succ, Act.put, List.setIfInBounds_toArray, List.set_cons_zero, List.set_cons_succ]
  refine wpAnyB_take (i := 3) (v := ?_) rfl (by kernel_rfl) (by kernel_rfl) (by kernel_rfl) (fun _ _ _ h => h) (by kernel_rfl) (fix_value (by rfl) ?_) ?_
  rotate_left
  · (intro W1 hl; go_simp <;> with_reducible rfl)
  try simp only [List.getElem_toArray, List.getElem_cons_zero, List.getElem_cons_succ, Act.put, List.setIfInBounds_toArray, List.set_cons_zero, List.set_cons_succ]
  refine wpAnyB_take (i := 4) (v := _) rfl (by kernel_rfl) (by kernel_rfl) (by kernel_rfl) (fun _ _ _ h => h) (by kernel_rfl) (fix_enter (by rfl) (fun W1 hl => PX.out g gw _ C2.out W1 hl) ?_) ?_
  · (intro W1 hl; go_simp <;> with_reducible rfl)
  try simp only [List.getElem_toArray, List.getElem_cons_zero, List.getElem_cons_succ, Act.put, List.setIfInBounds_toArray, List.set_cons_zero, List.set_cons_succ]
  refine wpAnyB_take (i := 5) (v := ?_) rfl (by kernel_rfl) (by kernel_rfl) (by kernel_rfl) (fun _ _ _ h => h) (by kernel_rfl) (fix_value (by rfl) ?_) ?_
  rotate_left
  · (intro W1 hl; go_simp <;> with_reducible rfl)
  try simp only [List.getElem_toArray, List.getElem_cons_zero, List.getElem_cons_succ, Act.put, List.setIfInBounds_toArray, List.set_cons_zero, List.set_cons_succ]
  refine wpAnyB_take (i := 6) (v := _) rfl (by kernel_rfl) (by kernel_rfl) (by kernel_rfl) (fun _ _ _ h => h) (by kernel_rfl) (fix_enter (by rfl) (fun W1 hl => RX.out g' gw' _ C3.out W1 hl) ?_) ?_
  · (intro W1 hl; go_simp <;> with_reducible rfl)
  try simp only [List.getElem_toArray, List.getElem_cons_zero, List.getElem_cons_succ, Act.put, List.setIfInBounds_toArray, List.set_cons_zero, List.set_cons_succ]
  refine wpAnyB_take (i := 7) (v := ?_) rfl (by kernel_rfl) (by kernel_rfl) (by kernel_rfl) (fun _ _ _ h => h) (by kernel_rfl) (fix_value (by rfl) ?_) ?_
  rotate_left
  · (intro W1 hl; go_simp <;> with_reducible rfl)
  try simp only [List.getElem_toArray, List.getElem_cons_zero, List.getElem_cons_succ, Act.put, List.setIfInBounds_toArray, List.set_cons_zero, List.set_cons_succ]
  refine wpAnyB_take (i := 8) (v := ?_) rfl (by kernel_rfl) (by kernel_rfl) (by kernel_rfl) (fun _ _ _ h => h) (by kernel_rfl) (fix_value (by rfl) ?_) ?_
  rotate_left
  · (intro W1 hl; go_simp <;> with_reducible rfl)
  try simp only [List.getElem_toArray, List.getElem_cons_zero, List.getElem_cons_succ, Act.put, List.setIfInBounds_toArray, List.set_cons_zero, List.set_cons_succ]
  refine wpAnyB_take (i := 9) (v := ?_) rfl (by kernel_rfl) (by kernel_rfl) (by kernel_rfl) (fun _ _ _ h => h) (by kernel_rfl) (fix_value (by rfl) ?_) ?_
  rotate_left
  · (intro W1 hl; go_simp <;> with_reducible rfl)
  try simp only [List.getElem_toArray, List.getElem_cons_zero, List.getElem_cons_succ, Act.put, List.setIfInBounds_toArray, List.set_cons_zero, List.set_cons_succ]
  refine wpAnyB_take (i := 10) (v := _) rfl (by kernel_rfl) (by kernel_rfl) (by kernel_rfl) (fun _ _ _ h => h) (by kernel_rfl) (fix_enter (by rfl) (fun W1 hl => TX.out g gw _ C2.out W1 hl) ?_) ?_
  · (intro W1 hl; go_simp <;> with_reducible rfl)
  try simp only [List.getElem_toArray, List.getElem_cons_zero, List.getElem_cons_succ, Act.put, List.setIfInBounds_toArray, List.set_cons_zero, List.set_cons_succ]
  refine wpAnyB_take (i := 11) (v := ?_) rfl (by kernel_rfl) (by kernel_rfl) (by kernel_rfl) (fun _ _ _ h => h) (by kernel_rfl) (fix_value (by rfl) ?_) ?_
  rotate_left
  · (intro W1 hl; go_simp <;> with_reducible rfl)
  try simp only [List.getElem_toArray, List.getElem_cons_zero, List.getElem_cons_succ, Act.put, List.setIfInBounds_toArray, List.set_cons_zero, List.set_cons_succ]
  refine wpAnyB_take (i := 12) (v := ?_) rfl (by kernel_rfl) (by kernel_rfl) (by kernel_rfl) (fun _ _ _ h => h) (by kernel_rfl) (fix_value (by rfl) ?_) ?_
  rotate_left
  · (intro W1 hl; go_simp <;> with_reducible rfl)
  try simp only [List.getElem_toArray, List.getElem_cons_zero, List.getElem_cons_succ, Act.put, List.setIfInBounds_toArray, List.set_cons_zero, List.set_cons_succ]
  refine wpAnyB_take (i := 13) (v := ?_) rfl (by kernel_rfl) (by kernel_rfl) (by kernel_rfl) (fun _ _ _ h => h) (by kernel_rfl) (fix_value (by rfl) ?_) ?_
  rotate_left
  · (intro W1 hl; go_simp <;> with_reducible rfl)
  try simp only [List.getElem_toArray, List.getElem_cons_zero, List.getElem_cons_succ, Act.put, List.setIfInBounds_toArray, List.set_cons_zero, List.set_cons_succ]
  refine wpAnyB_take (i := 14) (v := ?_) rfl (by kernel_rfl) (by kernel_rfl) (by kernel_rfl) (fun _ _ _ h => h) (by kernel_rfl) (fix_value (by rfl) ?_) ?_
  rotate_left
  · (intro W1 hl; obtain ⟨q0, q1, q2, q3, q4, q5⟩ := M3.out W1 hl; go_simp <;> with_reducible rfl)
  try simp only [List.getElem_toArray, List.getElem_cons_zero, List.getElem_cons_succ, Act.put, List.setIfInBounds_toArray, List.set_cons_zero, List.set_cons_succ]
  refine wpAnyB_take (i := 15) (v := ?_) rfl (by kernel_rfl) (by kernel_rfl) (by kernel_rfl) (fun _ _ _ h => h) (by kernel_rfl) (fix_value (by rfl) ?_) ?_
  rotate_left
  · (intro W1 hl; go_simp <;> with_reducible rfl)
  try simp only [List.getElem_toArray, List.getElem_cons_zero, List.getElem_cons_succ, Act.put, List.setIfInBounds_toArray, List.set_cons_zero, List.set_cons_succ]
  refine wpAnyB_take (i := 16) (v := ?_) rfl (by kernel_rfl) (by kernel_rfl) (by kernel_rfl) (fun _ _ _ h => h) (by kernel_rfl) (fix_value (by rfl) ?_) ?_
  rotate_left
  · (intro W1 hl; go_simp <;> with_reducible rfl)
  try simp only [List.getElem_toArray, List.getElem_cons_zero, List.getElem_cons_succ, Act.put, List.setIfInBounds_toArray, List.set_cons_zero, List.set_cons_succ]
  refine wpAnyB_take (i := 17) (v := ?_) rfl (by kernel_rfl) (by kernel_rfl) (by kernel_rfl) (fun _ _ _ h => h) (by kernel_rfl) (fix_value (by rfl) ?_) ?_
  rotate_left
  · (intro W1 hl; go_simp <;> with_reducible rfl)
  try simp only [List.getElem_toArray, List.getElem_cons_zero, List.getElem_cons_succ, Act.put, List.setIfInBounds_toArray, List.set_cons_zero, List.set_cons_succ]
  refine wpAnyB_take (i := 18) (v := ?_) rfl (by kernel_rfl) (by kernel_rfl) (by kernel_rfl) (fun _ _ _ h => h) (by kernel_rfl) (fix_value (by rfl) ?_) ?_
  rotate_left
  · (intro W1 hl; go_simp <;> with_reducible rfl)
  try simp only [List.getElem_toArray, List.getElem_cons_zero, List.getElem_cons_succ, Act.put, List.setIfInBounds_toArray, List.set_cons_zero, List.set_cons_succ]
  refine wpAnyB_take (i := 19) (v := _) rfl (by kernel_rfl) (by kernel_rfl) (by kernel_rfl) (fun _ _ _ h => h) (by kernel_rfl) (fix_enter (by rfl) (fun W1 hl => DX.out g gw _ BD.out C2.out V2.out W1 hl) ?_) ?_
  · (intro W1 hl; go_simp <;> with_reducible rfl)
  try simp only [List.getElem_toArray, List.getElem_cons_zero, List.getElem_cons_succ, Act.put, List.setIfInBounds_toArray, List.set_cons_zero, List.set_cons_succ]
  refine wpAnyB_take (i := 20) (v := ?_) rfl (by kernel_rfl) (by kernel_rfl) (by kernel_rfl) (fun _ _ _ h => h) (by kernel_rfl) (fix_value (by rfl) ?_) ?_
  rotate_left
  · (intro W1 hl; go_simp <;> with_reducible rfl)
  try simp only [List.getElem_toArray, List.getElem_cons_zero, List.getElem_cons_succ, Act.put, List.setIfInBounds_toArray, List.set_cons_zero, List.set_cons_succ]
  refine wpAnyB_take (i := 21) (v := _) rfl (by kernel_rfl) (by kernel_rfl) (by kernel_rfl) (fun _ _ _ h => h) (by kernel_rfl) (fix_enter (by rfl) (fun W1 hl => GX.out g' gw' _ C3.out V3.out W1 hl) ?_) ?_
  · (intro W1 hl; go_simp <;> with_reducible rfl)
  try simp only [List.getElem_toArray, List.getElem_cons_zero, List.getElem_cons_succ, Act.put, List.setIfInBounds_toArray, List.set_cons_zero, List.set_cons_succ]
  refine wpAnyB_take (i := 22) (v := ?_) rfl (by kernel_rfl) (by kernel_rfl) (by kernel_rfl) (fun _ _ _ h => h) (by kernel_rfl) (fix_value (by rfl) ?_) ?_
  rotate_left
  · (intro W1 hl; go_simp <;> with_reducible rfl)
  try simp only [List.getElem_toArray, List.getElem_cons_zero, List.getElem_cons_succ, Act.put, List.setIfInBounds_toArray, List.set_cons_zero, List.set_cons_succ]
  refine wpAnyB_take (i := 23) (v := ?_) rfl (by kernel_rfl) (by kernel_rfl) (by kernel_rfl) (fun _ _ _ h => h) (by kernel_rfl) (fix_value (by rfl) ?_) ?_
  rotate_left
  · (intro W1 hl; go_simp <;> with_reducible rfl)
  try simp only [List.getElem_toArray, List.getElem_cons_zero, List.getElem_cons_succ, Act.put, List.setIfInBounds_toArray, List.set_cons_zero, List.set_cons_succ]
  refine wpAnyB_take (i := 24) (v := ?_) rfl (by kernel_rfl) (by kernel_rfl) (by kernel_rfl) (fun _ _ _ h => h) (by kernel_rfl) (fix_value (by rfl) ?_) ?_
  rotate_left
  · (intro W1 hl; go_simp <;> with_reducible rfl)
  try simp only [List.getElem_toArray, List.getElem_cons_zero, List.getElem_cons_succ, Act.put, List.setIfInBounds_toArray, List.set_cons_zero, List.set_cons_succ]
  refine wpAnyB_take (i := 25) (v := ?_) rfl (by kernel_rfl) (by kernel_rfl) (by kernel_rfl) (fun _ _ _ h => h) (by kernel_rfl) (fix_value (by rfl) ?_) ?_
  rotate_left
  · (intro W1 hl; go_simp <;> with_reducible rfl)
  try simp only [List.getElem_toArray, List.getElem_cons_zero, List.getElem_cons_succ, Act.put, List.setIfInBounds_toArray, List.set_cons_zero, List.set_cons_succ]
  refine wpAnyB_take (i := 26) (v := _) rfl (by kernel_rfl) (by kernel_rfl) (by kernel_rfl) (fun _ _ _ h => h) (by kernel_rfl) (fix_enter (by rfl) (fun W1 hl => (WK.out W1 (BD.out.trans (But.ofBelow hl))).mono (by rintro e w' ⟨rfl, h⟩; exact ⟨rfl, h.later⟩)) ?_) ?_
  · (intro W1 hl; go_simp <;> with_reducible rfl)
  try simp only [List.getElem_toArray, List.getElem_cons_zero, List.getElem_cons_succ, Act.put, List.setIfInBounds_toArray, List.set_cons_zero, List.set_cons_succ]
  refine wpAnyB_take (i := 27) (v := ?_) rfl (by kernel_rfl) (by kernel_rfl) (by kernel_rfl) (fun _ _ _ h => h) (by kernel_rfl) (fix_value (by rfl) ?_) ?_
  rotate_left
  · (intro W1 hl; go_simp <;> with_reducible rfl)
  try simp only [List.getElem_toArray, List.getElem_cons_zero, List.getElem_cons_succ, Act.put, List.setIfInBounds_toArray, List.set_cons_zero, List.set_cons_succ]
  refine wpAnyB_take (i := 28) (v := ?_) rfl (by kernel_rfl) (by kernel_rfl) (by kernel_rfl) (fun _ _ _ h => h) (by kernel_rfl) (fix_value (by rfl) ?_) ?_
  rotate_left
  · (intro W1 hl; go_simp <;> with_reducible rfl)
  try simp only [List.getElem_toArray, List.getElem_cons_zero, List.getElem_cons_succ, Act.put, List.setIfInBounds_toArray, List.set_cons_zero, List.set_cons_succ]
  refine wpAnyB_done (by kernel_rfl) (fun w3 hl4 => ?_) _
  try simp only [List.getElem_toArray, List.getElem_cons_zero, List.getElem_cons_succ, Act.put, List.setIfInBounds_toArray, List.set_cons_zero, List.set_cons_succ]
  have HL2 := Shut.mk (BD.out.trans (But.ofBelow hl4))
  clear hl4
  go_wp2_with fail
  go_ret
  exact ⟨rfl, HL2.out⟩
theorem begins_any (m : LM) (s : Nat) (a b : Int) (B : Nat) (W : World) (hT : PackT B W) (hB : B ≤ W.heap.size) (hm : m.ok) (hs : s < 18446744073709551616)
    (WK : ∀ w, But [] W w → Ret 12 #[] w (.bool true)) :
    Calls Tryz.prog 3 #[msgAgg m, .int .u64 (s : Nat), .agg #[.int .i64 a, .int .i64 b]] W fun r w' => r = .returned (.bool true) ∧ But [] W w' := by
  by_cases hg : NewOk m s a b
  · exact begins_good m s a b B W hT hB hm hg WK
  · exact begins_bad m s a b B W hT hB hm hs hg WK
end Go.Proofs.YtdaojlipkffigaaGreatDoor
namespace Go.Proofs.YtdaojlipkffigaaGreatDoor
set_option linter.unusedVariables false
set_option linter.unusedSimpArgs false
set_option maxRecDepth 100000
open Go Go.RowKit
theorem hdr_nil : hdrOf [] = none := by kernel_rfl
theorem may_0 : mayB ⟨[], [], 0, 0, 0, 0⟩ = false := by kernel_rfl
def CliW (w : World) (g : Nat) : Prop := ∃ gw, Blk w g (pC mW gw 1 1) 60
theorem sW_len : (wholeB (msgKv mW)).length < 1000000 := by
  have := kvs_len mW ok_mW rfl rfl
  omega
theorem works_any (B : Nat) (W : World) (hW : EnvC B W) : Ret 12 #[] W (.bool true) := by
  refine works_of (EnvC B) (mkS (List.replicate 32 104)) (mkS (List.replicate 32 112)) (mkS (wholeB (msgKv mW))) CliW W hW (fun w w' h hb => h.but hb) (fun w w' g h hb => ?_) (fun w h => message_any w) (fun w h => ?_) (fun w h => ?_) (fun w h => ?_) (fun w h => ?_) (fun w h => ?_) (fun w h => ?_) (fun w g h hc => ?_) (fun w g h hc => ?_) (fun w g h hc => ?_) (fun w g h hc => ?_) (fun w g h hc => ?_)
  · obtain ⟨gw, hx⟩ := h
    exact ⟨gw, hx.but hb (by simp)⟩
  · exact pnew_bad ⟨[], [], 0, 0, 0, 0⟩ 1 1 1 B w h.pack h.low ⟨by decide, by decide, by decide, by decide⟩ (by decide) (fun hn => by have := hn.may; rw [may_0] at this; cases this)
  · exact pnew_bad mW 0 1 1 B w h.pack h.low ok_mW (by decide) (fun hn => by have := hn.s1; omega)
  · exact pnew_bad mW 1 641 1 B w h.pack h.low ok_mW (by decide) (fun hn => by have := hn.a2; omega)
  · exact pnew_bad mW 1 1 33 B w h.pack h.low ok_mW (by decide) (fun hn => by have := hn.b2; omega)
  · refine (pnew_good mW 1 1 1 B w h.pack h.low ok_mW ⟨may_mW, by decide, by decide, by decide, by decide, by decide, by decide⟩).mono ?_
    rintro r w' ⟨g, gw, rfl, hb, _, _, hx, _⟩
    exact ⟨g, rfl, hb, gw, hx⟩
  · have hv : msgV mW = .tuple #[.string (mkS (wholeB (msgKv mW))), .int .i64 0] := if_pos ⟨rfl, rfl⟩
    have := encM_any mW B w h.pack h.low ok_mW
    rw [hv] at this
    exact this
  · exact header_bad g [] (.slice none 0 0) B w h.tabs h.low h.err (by decide) hdr_nil
  · obtain ⟨gw, hx⟩ := hc
    exact (pnext_any mW g gw 1 1 w hx (by decide)).mono (by rintro e w' ⟨rfl, rfl⟩; exact ⟨rfl, But.refl _ _⟩)
  · obtain ⟨gw, hx⟩ := hc
    exact submit_unread mW g gw 1 1 [] [] B w h hx (by decide) rd_nil
  · obtain ⟨gw, hx⟩ := hc
    exact submit_next mW g gw 1 1 [] (wholeB (msgKv mW)) B w mW ok_mW h hx (by decide) sW_len rd_mW may_mW (by decide)
  · exact do_high g _ _ _ _ _ _ _ _ w
theorem clientBegins_walk (B : Nat) (m : LM) (hm : m.ok) (s : Nat) (hs : s < 18446744073709551616) (a b : Int) (W : World) (hW : EnvC B W) :
    Calls Tryz.prog 3 #[msgAgg m, .int .u64 (s : Nat), .agg #[.int .i64 a, .int .i64 b]] W fun r w' => r = .returned (.bool true) ∧ But [] W w' :=
  begins_any m s a b B W hW.pack hW.low hm hs fun w hb => works_any B w (hW.but hb)
end Go.Proofs.YtdaojlipkffigaaGreatDoor
namespace Go.Proofs.YtdaojlipkffigaaGreatDoor
set_option linter.unusedVariables false
set_option linter.unusedSimpArgs false
set_option maxRecDepth 100000
open Go Go.RowKit
open Go.ChangeShapes Go.WideShapes Go.Deep
theorem mkS_bytes (s : ByteArray) : s = mkS s.data.toList := by simp [mkS]
theorem u64_nat' {n : Int} (h : (Lit.int .u64 n).wf = true) : ∃ x : Nat, n = (x : Int) ∧ x < 18446744073709551616 := by
  have := bounds_u64 h
  exact ⟨n.toNat, by omega, by omega⟩
section
variable {H : Type} {enc : TypeId × Value → H} {w : World} {base n : Nat} {spare : Nat → Bool} {held : Bool}
theorem at_some {α : Type} {ys : List α} {o : Option α} {j : Nat} (h : o = ys[j]?) (hl : j < ys.length) : ∃ y, o = some y := ⟨ys[j], h.trans (List.getElem?_eq_getElem hl)⟩
theorem leaf_int {t : TypeId} {k : IntKind} {v : Value} (ht : Tryz.prog.underlying t = some (.int k)) (h : ∃ y, DataW.trod enc Tryz.prog w base spare held n t [v] = some y) : ∃ z, v = .int k z ∧ (Lit.int k z).wf = true := by
  obtain ⟨y, h⟩ := h
  obtain ⟨z, h1, _, h2⟩ := DataW.trod_int ht h
  injection h1 with h1
  exact ⟨z, h1, h2⟩
theorem leaf_str {t : TypeId} {v : Value} (ht : Tryz.prog.underlying t = some .string) (h : ∃ y, DataW.trod enc Tryz.prog w base spare held n t [v] = some y) : ∃ l, v = .string (mkS l) := by
  obtain ⟨y, h⟩ := h
  obtain ⟨s, h1, _⟩ := DataW.trod_string ht h
  injection h1 with h1
  exact ⟨s.data.toList, by rw [← mkS_bytes]; exact h1⟩
theorem szc_int : Tryz.prog.cellsOf 3 = 1 := by kernel_rfl
theorem szc_str : Tryz.prog.cellsOf 9 = 1 := by kernel_rfl
theorem szc_u64 : Tryz.prog.cellsOf 22 = 1 := by kernel_rfl
theorem szc_msg : Tryz.prog.cellsOf 24 = 6 := by kernel_rfl
theorem msg_leaves {fuel : Nat} {cs : List Value} {x : DataW H × List MemPlace} (h : DataW.trod enc Tryz.prog w base spare held fuel 24 cs = some x) : ∃ m : LM, cs = msgC m ∧ m.ok := by
  obtain ⟨ys, n', _, _, hlen, hl, hf⟩ := DataW.trod_struct Tryz.underlying24 h
  rw [szc_msg] at hlen
  obtain ⟨c0, c1, c2, c3, c4, c5, rfl⟩ : ∃ (c0 c1 c2 c3 c4 c5 : Value), cs = [c0, c1, c2, c3, c4, c5] := by
    match cs, hlen with
    | [c0, c1, c2, c3, c4, c5], _ => exact ⟨c0, c1, c2, c3, c4, c5, rfl⟩
  clear hlen h
  have h0 : ∃ y, DataW.trod enc Tryz.prog w base spare held n' 9 [c0] = some y := by
    have h := hf 0 _ rfl
    change DataW.trod enc Tryz.prog w base spare held n' 9 ((List.drop 0 [c0, c1, c2, c3, c4, c5]).take (Tryz.prog.cellsOf 9)) = ys[0]? at h
    rw [szc_str] at h
    exact at_some h (by rw [hl]; decide)
  have h1 : ∃ y, DataW.trod enc Tryz.prog w base spare held n' 9 [c1] = some y := by
    have h := hf 1 _ rfl
    change DataW.trod enc Tryz.prog w base spare held n' 9 ((List.drop 1 [c0, c1, c2, c3, c4, c5]).take (Tryz.prog.cellsOf 9)) = ys[1]? at h
    rw [szc_str] at h
    exact at_some h (by rw [hl]; decide)
  have h2 : ∃ y, DataW.trod enc Tryz.prog w base spare held n' 22 [c2] = some y := by
    have h := hf 2 _ rfl
    change DataW.trod enc Tryz.prog w base spare held n' 22 ((List.drop 2 [c0, c1, c2, c3, c4, c5]).take (Tryz.prog.cellsOf 22)) = ys[2]? at h
    rw [szc_u64] at h
    exact at_some h (by rw [hl]; decide)
  have h3 : ∃ y, DataW.trod enc Tryz.prog w base spare held n' 22 [c3] = some y := by
    have h := hf 3 _ rfl
    change DataW.trod enc Tryz.prog w base spare held n' 22 ((List.drop 3 [c0, c1, c2, c3, c4, c5]).take (Tryz.prog.cellsOf 22)) = ys[3]? at h
    rw [szc_u64] at h
    exact at_some h (by rw [hl]; decide)
  have h4 : ∃ y, DataW.trod enc Tryz.prog w base spare held n' 22 [c4] = some y := by
    have h := hf 4 _ rfl
    change DataW.trod enc Tryz.prog w base spare held n' 22 ((List.drop 4 [c0, c1, c2, c3, c4, c5]).take (Tryz.prog.cellsOf 22)) = ys[4]? at h
    rw [szc_u64] at h
    exact at_some h (by rw [hl]; decide)
  have h5 : ∃ y, DataW.trod enc Tryz.prog w base spare held n' 22 [c5] = some y := by
    have h := hf 5 _ rfl
    change DataW.trod enc Tryz.prog w base spare held n' 22 ((List.drop 5 [c0, c1, c2, c3, c4, c5]).take (Tryz.prog.cellsOf 22)) = ys[5]? at h
    rw [szc_u64] at h
    exact at_some h (by rw [hl]; decide)
  obtain ⟨s0, rfl⟩ := leaf_str Tryz.underlying9 h0
  obtain ⟨s1, rfl⟩ := leaf_str Tryz.underlying9 h1
  obtain ⟨z2, rfl, w2⟩ := leaf_int Tryz.underlying22 h2
  obtain ⟨z3, rfl, w3⟩ := leaf_int Tryz.underlying22 h3
  obtain ⟨z4, rfl, w4⟩ := leaf_int Tryz.underlying22 h4
  obtain ⟨z5, rfl, w5⟩ := leaf_int Tryz.underlying22 h5
  obtain ⟨x2, rfl, q2⟩ := u64_nat' w2
  obtain ⟨x3, rfl, hw⟩ := u64_nat' w3
  obtain ⟨x4, rfl, q4⟩ := u64_nat' w4
  obtain ⟨x5, rfl, q5⟩ := u64_nat' w5
  exact ⟨⟨s0, s1, x2, x3, x4, x5⟩, rfl, ⟨q2, hw, q4, q5⟩⟩
end
theorem open_msg {H : Type} {enc : TypeId × Value → H} {W : World} {r : Reach} {b0 : Nat} {v : Value} {d : DataW H} {p : List MemPlace} (hv : Value.okWide Tryz.prog W r b0 24 v)
    (h : DataW.Trod enc Tryz.prog W 0 (fun _ => true) true 24 v d p) : ∃ m : LM, v = msgAgg m ∧ m.ok := by
  obtain ⟨cs, rfl, hsz, _⟩ : ∃ cs, v = .agg cs ∧ cs.size = Tryz.prog.cellsOf 24 ∧ Row.okWide Tryz.prog W r b0 24 cs := by
    simp only [Value.okWide, Tryz.underlying24] at hv
    exact hv
  obtain ⟨fuel, hf⟩ := h
  obtain ⟨m, e, hw⟩ := msg_leaves hf
  refine ⟨m, ?_, hw⟩
  have e2 : cs.toList = msgC m := e
  have e3 : cs = (msgC m).toArray := by rw [← e2]
  rw [e3]
  rfl
theorem addr_add {g o k : Nat} : (⟨g, o, none⟩ : Addr).add k = ⟨g, o + k, none⟩ := by
  unfold Addr.add
  split
  · rename_i h; subst h; rfl
  · rfl
end Go.Proofs.YtdaojlipkffigaaGreatDoor
