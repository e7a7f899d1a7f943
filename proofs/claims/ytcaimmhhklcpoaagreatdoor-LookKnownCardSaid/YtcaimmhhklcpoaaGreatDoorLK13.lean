/- SI, SJ: merged by merge.py. -/
import Derived.RangeFuncNested
import Derived.RangeFuncBound
import Derived.RangeFuncCalls
import Derived.RangeFuncLeaves
import Derived.Shelf.Abstract
import Derived.Shelf.RegionOpen
import Derived.WalkKit
import Derived.OwnWalkIn
import Derived.TacticsInMore
import Derived.LoopNIn
import Derived.LoopIn
import Derived.Test.YtcaimmhhklcpoaaGreatDoorLK02
import Derived.Test.YtcaimmhhklcpoaaGreatDoorLK12
import Derived.Test.YtcaimmhhklcpoaaGreatDoorLK09
import Derived.Test.YtcaimmhhklcpoaaGreatDoorLK10
namespace Go.Proofs.YtcaimmhhklcpoaaGreatDoor
set_option linter.unusedVariables false
set_option linter.unusedSimpArgs false
set_option maxRecDepth 100000
open Go Go.RowKit
open Go.Shelf
attribute [local go_sem] Oper.semAt_some
def stepEnc (first : LM) (f : Nat → LR) (j : Nat) : Array Value :=
  #[.agg #[.int .i64 (j : Nat), .string (mkS (nowAt first f j).h), .string (mkS (nowAt first f j).p), .int .u64 ((nowAt first f j).c : Nat), .int .u64 ((nowAt first f j).w : Nat), .int .u64 ((nowAt first f j).f : Nat), .int .u64 ((nowAt first f j).l : Nat)], rowAgg (f j)]
theorem steps_any (first : LM) (A : Option Addr) (n c : Nat) (W : World) :
    Calls Tryz.prog 28 #[msgAgg first, .slice A n c] W fun e w' => e = .returned (.func (.func 69) #[] #[.pointer (some ⟨W.heap.size, 0, none⟩), .pointer (some ⟨W.heap.size + 1, 0, none⟩)]) ∧ w' = (W.alloc (.cells #[.string (mkS first.h), .string (mkS first.p), .int .u64 (first.c : Nat), .int .u64 (first.w : Nat), .int .u64 (first.f : Nat), .int .u64 (first.l : Nat)] 24)).alloc (.cells #[.slice A n c] 25) := by
  have hmf := run_make_func
  simp only [msgAgg]
  go_enter Tryz.func28, Tryz.ntmps28
  go_wp2_with fail
  go_ret
  exact ⟨rfl, rfl⟩
theorem six_pass {W : World} {b B : Nat} {v0 v1 v2 v3 v4 v5 : Value} (J : World → Prop) (hJ : ∀ W p v, J W → B ≤ p.block → J (W.setCell p v)) (h : J W) (hb : B ≤ b) :
    J ((((((W.setCell ⟨b, 0, none⟩ v0).setCell ⟨b, 1, none⟩ v1).setCell ⟨b, 2, none⟩ v2).setCell ⟨b, 3, none⟩ v3).setCell ⟨b, 4, none⟩ v4).setCell ⟨b, 5, none⟩ v5) :=
  hJ _ _ _ (hJ _ _ _ (hJ _ _ _ (hJ _ _ _ (hJ _ _ _ (hJ _ _ _ h hb) hb) hb) hb) hb) hb
set_option maxHeartbeats 4000000 in
theorem steps_in (first : LM) (A : Option Addr) (n c : Nat) (f : Nat → LR) (bm br B : Nat) (I : List Nat → World → Prop) (Ix : Code → List Nat → World → Prop)
    (hI1 : ∀ pre W o, I pre W → I pre (W.alloc o)) (hI2 : ∀ pre W p v, I pre W → B ≤ p.block → I pre (W.setCell p v))
    (hIf : ∀ pre W, I pre W → Blk W bm (msgC first).toArray 24 ∧ Blk W br #[.slice A n c] 25 ∧ RowsV W A n f ∧ B ≤ W.heap.size)
    (l : Nat) (R : World → Prop) (Rx : Code → World → Prop) (hR : ∀ W W', R W → KeepsFrom B W W' → R W')
    (hY : ∀ (pre : List Nat) (x : Nat) W, (I pre W ∧ x = pre.length ∧ pre.length < n) → R W → YieldAt Fence.wide 1 Tryz.prog l (stepEnc first f x) W fun e W' =>
        (e = .returned (.bool true) ∧ I (pre ++ [x]) W' ∧ R W' ∧ CellsB B W W') ∨ (e = .returned (.bool false) ∧ ∃ c, Ix c (pre ++ [x]) W' ∧ Rx c W'))
    (W : World) (hI : I [] W) (hRW : R W) :
    CallsIn Fence.wide 2 Tryz.prog 69 #[.func (.yield l) #[] #[], .pointer (some ⟨bm, 0, none⟩), .pointer (some ⟨br, 0, none⟩)] W fun e W' =>
      (∃ v, e = .returned v) ∧ ((∃ xs : List Nat, xs.length = n ∧ I xs W' ∧ R W') ∨ (∃ c pre, Ix c pre W' ∧ Rx c W')) := by
  have HI1 := Shut.mk hI1
  have HI2 := Shut.mk hI2
  have HIF := Shut.mk hIf
  have HR := Shut.mk hR
  have HY := Shut.mk hY
  have HF0 := hIf _ _ hI
  have bm0 : W.cell? ⟨bm, 0, none⟩ = some (.string (mkS first.h)) := HF0.1.cell 0 rfl
  have bm1 : W.cell? ⟨bm, 1, none⟩ = some (.string (mkS first.p)) := HF0.1.cell 1 rfl
  have bm2 : W.cell? ⟨bm, 2, none⟩ = some (.int .u64 (first.c : Nat)) := HF0.1.cell 2 rfl
  have bm3 : W.cell? ⟨bm, 3, none⟩ = some (.int .u64 (first.w : Nat)) := HF0.1.cell 3 rfl
  have bm4 : W.cell? ⟨bm, 4, none⟩ = some (.int .u64 (first.f : Nat)) := HF0.1.cell 4 rfl
  have bm5 : W.cell? ⟨bm, 5, none⟩ = some (.int .u64 (first.l : Nat)) := HF0.1.cell 5 rfl
  have bml := HF0.1.lt
  have br0 := HF0.2.1.cell 0 rfl
  have brl := HF0.2.1.lt
  have HN := Shut.mk (And.intro HF0.2.2.1.1 HF0.2.2.2)
  have NB := Shut.mk (Blk.new W #[.string (mkS first.h), .string (mkS first.p), .int .u64 (first.c : Nat), .int .u64 (first.w : Nat), .int .u64 (first.f : Nat), .int .u64 (first.l : Nat)] 24)
  have HIW := Shut.mk (hI1 [] W (.cells #[.string (mkS first.h), .string (mkS first.p), .int .u64 (first.c : Nat), .int .u64 (first.w : Nat), .int .u64 (first.f : Nat), .int .u64 (first.l : Nat)] 24) hI)
  have HRW := Shut.mk (hR _ _ hRW ((KeepsOthers.alloc W (.cells #[.string (mkS first.h), .string (mkS first.p), .int .u64 (first.c : Nat), .int .u64 (first.w : Nat), .int .u64 (first.f : Nat), .int .u64 (first.l : Nat)] 24)).from B))
  clear hI1 hI2 hIf hR hY HF0 hI hRW
  refine callsIn_of_wp Tryz.func69 rfl trivial ?_ rfl
  simp only [Tryz.ntmps69, List.size_toArray, List.length_cons, List.length_nil, Nat.reduceAdd, Nat.reduceSub, Array.replicate_succ, Array.replicate_zero, List.push_toArray, List.append_toArray, List.nil_append, List.cons_append]
  gi_wp2
  generalize W.alloc (.cells #[.string (mkS first.h), .string (mkS first.p), .int .u64 (first.c : Nat), .int .u64 (first.w : Nat), .int .u64 (first.f : Nat), .int .u64 (first.l : Nat)] 24) = w0 at *
  gi_loopw [10] (fun k wr => ∃ j : Nat, k = .int .i64 j ∧ j ≤ n ∧ Blk wr W.heap.size (msgC (nowAt first f j)).toArray 24 ∧ I (List.range j) wr ∧ R wr) (fun k _ => n - (intOf k).toNat)
  case atStart => exact ⟨0, rfl, by omega, NB.out, HIW.out, HRW.out⟩
  case round =>
    obtain ⟨j, rfl, hj, hnow, hI, hRw⟩ := hrel
    have hn1 := HN.out.1
    by_cases hjn : j < n
    · have hjn' : ((j : Int) < (n : Int)) := by omega
      obtain ⟨g, rfl, hrw⟩ := (HIF.out _ _ hI).2.2.1.2 (by omega)
      obtain ⟨r, hr⟩ : ∃ r, r = f j := ⟨_, rfl⟩
      obtain ⟨nw, hnw⟩ : ∃ nw, nw = nowAt first f j := ⟨_, rfl⟩
      have HBB := Shut.mk (HIF.out _ _ hI).2.2.2
      have hlt := hrw.1
      have RA : Shut (wr.rangeAt g (j * 18) (rowC r)) := ⟨by rw [hr]; exact hrw.range hjn⟩
      have RN := Shut.mk (Blk.new wr #[.int .i64 r.kind, .string (mkS r.cert), .string (mkS r.msg), .string (mkS r.hdr), .slice r.pa r.pn r.pc, .string (mkS r.body), .int .u64 (r.pos : Nat), .slice r.qa r.qn r.qc, .int .u64 (r.count : Nat), .int .i64 r.cl, .int .i64 r.mo, .string (mkS r.tr.h), .string (mkS r.tr.p), .int .u64 (r.tr.c : Nat), .int .u64 (r.tr.w : Nat), .int .u64 (r.tr.f : Nat), .int .u64 (r.tr.l : Nat), .string (mkS r.dg)] 31)
      have RB := Shut.mk (row_range RN.out)
      have BA := Shut.mk ((But.refl [] wr).alloc (.cells #[.int .i64 r.kind, .string (mkS r.cert), .string (mkS r.msg), .string (mkS r.hdr), .slice r.pa r.pn r.pc, .string (mkS r.body), .int .u64 (r.pos : Nat), .slice r.qa r.qn r.qc, .int .u64 (r.count : Nat), .int .i64 r.cl, .int .i64 r.mo, .string (mkS r.tr.h), .string (mkS r.tr.p), .int .u64 (r.tr.c : Nat), .int .u64 (r.tr.w : Nat), .int .u64 (r.tr.f : Nat), .int .u64 (r.tr.l : Nat), .string (mkS r.dg)] 31))
      have I1 := HI1.out _ _ (.cells #[.int .i64 r.kind, .string (mkS r.cert), .string (mkS r.msg), .string (mkS r.hdr), .slice r.pa r.pn r.pc, .string (mkS r.body), .int .u64 (r.pos : Nat), .slice r.qa r.qn r.qc, .int .u64 (r.count : Nat), .int .i64 r.cl, .int .i64 r.mo, .string (mkS r.tr.h), .string (mkS r.tr.p), .int .u64 (r.tr.c : Nat), .int .u64 (r.tr.w : Nat), .int .u64 (r.tr.f : Nat), .int .u64 (r.tr.l : Nat), .string (mkS r.dg)] 31) hI
      have R1 := HR.out _ _ hRw ((KeepsOthers.alloc wr (.cells #[.int .i64 r.kind, .string (mkS r.cert), .string (mkS r.msg), .string (mkS r.hdr), .slice r.pa r.pn r.pc, .string (mkS r.body), .int .u64 (r.pos : Nat), .slice r.qa r.qn r.qc, .int .u64 (r.count : Nat), .int .i64 r.cl, .int .i64 r.mo, .string (mkS r.tr.h), .string (mkS r.tr.p), .int .u64 (r.tr.c : Nat), .int .u64 (r.tr.w : Nat), .int .u64 (r.tr.f : Nat), .int .u64 (r.tr.l : Nat), .string (mkS r.dg)] 31)).from B)
      have NB1 : Shut (Blk (wr.alloc (.cells #[.int .i64 r.kind, .string (mkS r.cert), .string (mkS r.msg), .string (mkS r.hdr), .slice r.pa r.pn r.pc, .string (mkS r.body), .int .u64 (r.pos : Nat), .slice r.qa r.qn r.qc, .int .u64 (r.count : Nat), .int .i64 r.cl, .int .i64 r.mo, .string (mkS r.tr.h), .string (mkS r.tr.p), .int .u64 (r.tr.c : Nat), .int .u64 (r.tr.w : Nat), .int .u64 (r.tr.f : Nat), .int .u64 (r.tr.l : Nat), .string (mkS r.dg)] 31)) W.heap.size #[.string (mkS nw.h), .string (mkS nw.p), .int .u64 (nw.c : Nat), .int .u64 (nw.w : Nat), .int .u64 (nw.f : Nat), .int .u64 (nw.l : Nat)] 24) := ⟨by rw [← hnw] at hnow; exact hnow.but BA.out (by simp)⟩
      have nl : W.heap.size < wr.heap.size := hnow.lt
      have NBX : Shut ((wr.alloc (.cells #[.int .i64 r.kind, .string (mkS r.cert), .string (mkS r.msg), .string (mkS r.hdr), .slice r.pa r.pn r.pc, .string (mkS r.body), .int .u64 (r.pos : Nat), .slice r.qa r.qn r.qc, .int .u64 (r.count : Nat), .int .i64 r.cl, .int .i64 r.mo, .string (mkS r.tr.h), .string (mkS r.tr.p), .int .u64 (r.tr.c : Nat), .int .u64 (r.tr.w : Nat), .int .u64 (r.tr.f : Nat), .int .u64 (r.tr.l : Nat), .string (mkS r.dg)] 31)).rangeAt W.heap.size 0 (msgC nw)) := ⟨fun k v hv => by
        have hv' : (msgC nw).toArray[k]? = some v := by simpa using hv
        rw [Nat.zero_add]; exact NB1.out.cell k hv'⟩
      obtain ⟨fn, tmps, assign, body, hyl, hRd⟩ := HY.out (List.range j) j _ ⟨I1, by simp, by simpa using hjn⟩ R1
      simp only [stepEnc, rowAgg] at hyl hRd
      rw [← hr, ← hnw] at hyl
      have HRD := Shut.mk hRd
      have HRT : Shut (nowAt first f (j + 1) = r.tr) := ⟨by rw [hr]; rfl⟩
      clear hrw hr hnw hnow hI hRw I1 R1 hRd
      gi_wp2_with (first | (refine wpListIn_load_mid rfl 31 (.tmp 13) rfl (g) (j * 18) rfl [.int .i64 r.kind, .string (mkS r.cert), .string (mkS r.msg), .string (mkS r.hdr), .slice r.pa r.pn r.pc, .string (mkS r.body), .int .u64 (r.pos : Nat), .slice r.qa r.qn r.qc, .int .u64 (r.count : Nat), .int .i64 r.cl, .int .i64 r.mo, .string (mkS r.tr.h), .string (mkS r.tr.p), .int .u64 (r.tr.c : Nat), .int .u64 (r.tr.w : Nat), .int .u64 (r.tr.f : Nat), .int .u64 (r.tr.l : Nat), .string (mkS r.dg)] _ RA.out Tryz.underlying31 rfl (by kernel_rfl) ?_) | (refine wpListIn_load_mid rfl 24 (.tmp 4) rfl (W.heap.size) (0) rfl [.string (mkS nw.h), .string (mkS nw.p), .int .u64 (nw.c : Nat), .int .u64 (nw.w : Nat), .int .u64 (nw.f : Nat), .int .u64 (nw.l : Nat)] _ NBX.out Tryz.underlying24 rfl (by kernel_rfl) ?_) | (refine wpListIn_load_mid rfl 31 (.tmp 6) rfl (wr.heap.size) (0) rfl [.int .i64 r.kind, .string (mkS r.cert), .string (mkS r.msg), .string (mkS r.hdr), .slice r.pa r.pn r.pc, .string (mkS r.body), .int .u64 (r.pos : Nat), .slice r.qa r.qn r.qc, .int .u64 (r.count : Nat), .int .i64 r.cl, .int .i64 r.mo, .string (mkS r.tr.h), .string (mkS r.tr.p), .int .u64 (r.tr.c : Nat), .int .u64 (r.tr.w : Nat), .int .u64 (r.tr.f : Nat), .int .u64 (r.tr.l : Nat), .string (mkS r.dg)] _ RB.out Tryz.underlying31 rfl (by kernel_rfl) ?_))
      refine HRD.out.mono ?_
      clear HRD hyl
      rintro e W3 (⟨rfl, hI3, hR3, hC3⟩ | ⟨rfl, c', hx, hrx⟩)
      · have NB3 : Shut (Blk W3 W.heap.size #[.string (mkS nw.h), .string (mkS nw.p), .int .u64 (nw.c : Nat), .int .u64 (nw.w : Nat), .int .u64 (nw.f : Nat), .int .u64 (nw.l : Nat)] 24) := ⟨hC3 _ _ _ _ HN.out.2 NB1.out⟩
        have RN3 : Shut (Blk W3 wr.heap.size #[.int .i64 r.kind, .string (mkS r.cert), .string (mkS r.msg), .string (mkS r.hdr), .slice r.pa r.pn r.pc, .string (mkS r.body), .int .u64 (r.pos : Nat), .slice r.qa r.qn r.qc, .int .u64 (r.count : Nat), .int .i64 r.cl, .int .i64 r.mo, .string (mkS r.tr.h), .string (mkS r.tr.p), .int .u64 (r.tr.c : Nat), .int .u64 (r.tr.w : Nat), .int .u64 (r.tr.f : Nat), .int .u64 (r.tr.l : Nat), .string (mkS r.dg)] 31) := ⟨hC3 _ _ _ _ HBB.out RN.out⟩
        have HI3 := Shut.mk (show I (List.range (j + 1)) W3 by rw [List.range_succ]; exact hI3)
        have HR3 := Shut.mk hR3
        have r11 : W3.cell? ⟨wr.heap.size, 11, none⟩ = some (.string (mkS r.tr.h)) := RN3.out.cell 11 rfl
        have r12 : W3.cell? ⟨wr.heap.size, 12, none⟩ = some (.string (mkS r.tr.p)) := RN3.out.cell 12 rfl
        have r13 : W3.cell? ⟨wr.heap.size, 13, none⟩ = some (.int .u64 (r.tr.c : Nat)) := RN3.out.cell 13 rfl
        have r14 : W3.cell? ⟨wr.heap.size, 14, none⟩ = some (.int .u64 (r.tr.w : Nat)) := RN3.out.cell 14 rfl
        have r15 : W3.cell? ⟨wr.heap.size, 15, none⟩ = some (.int .u64 (r.tr.f : Nat)) := RN3.out.cell 15 rfl
        have r16 : W3.cell? ⟨wr.heap.size, 16, none⟩ = some (.int .u64 (r.tr.l : Nat)) := RN3.out.cell 16 rfl
        have rl := RN3.out.lt
        have n0 := NB3.out.cell 0 rfl
        have n1 := NB3.out.cell 1 rfl
        have n2 := NB3.out.cell 2 rfl
        have n3 := NB3.out.cell 3 rfl
        have n4 := NB3.out.cell 4 rfl
        have n5 := NB3.out.cell 5 rfl
        have m0 := NB3.out.frozen 0
        have m1 := NB3.out.frozen 1
        have m2 := NB3.out.frozen 2
        have m3 := NB3.out.frozen 3
        have m4 := NB3.out.frozen 4
        have m5 := NB3.out.frozen 5
        have ml := NB3.out.lt
        clear hI3 hR3 hC3
        gi_wp2
        go_roundw
        case rel =>
          refine ⟨j + 1, by go_num, by omega, ?_, ?_, ?_⟩
          · rw [HRT.out]
            exact six_setB NB3.out
          · exact six_pass (fun W => I (List.range (j + 1)) W) (fun W p v h hb => HI2.out _ W p v h hb) HI3.out HN.out.2
          · exact six_pass R (fun W p v h hb => HR.out _ _ h ((KeepsOthers.setCell W p v).from B)) HR3.out HN.out.2
        case measure => simp [intOf]; omega
      · have HX := Shut.mk (show ∃ c pre, Ix c pre W3 ∧ Rx c W3 from ⟨c', _, hx, hrx⟩)
        clear hx hrx
        gi_wp2
        refine bodyPost_ret (results_none rfl _ _ _) rfl ?_
        exact ⟨⟨_, rfl⟩, Or.inr HX.out⟩
    · obtain rfl : j = n := by omega
      have HX := Shut.mk (And.intro hI hRw)
      clear hI hRw hnow
      gi_wp2
      go_end0
      exact ⟨⟨_, rfl⟩, Or.inl ⟨List.range j, by simp, HX.out.1, HX.out.2⟩⟩
end Go.Proofs.YtcaimmhhklcpoaaGreatDoor
namespace Go.Proofs.YtcaimmhhklcpoaaGreatDoor
set_option linter.unusedVariables false
set_option linter.unusedSimpArgs false
set_option maxRecDepth 100000
open Go Go.RowKit
open Go.Shelf
attribute [local go_sem] Oper.semAt_some
theorem But.own {L : List Nat} {w1 W W' : World} {row : Option Nat} (h : But L w1 W) (hg : W.grownBy W' row) (hr : ∀ r, row = some r → w1.heap.size ≤ r ∧ ∃ o : Obj, W.heap[r]? = some o ∧ o.isCells = false) : But L w1 W' :=
  h.trans2 (But.ofGrown hg fun k hk cs t _ hb => by
    obtain ⟨_, o, ho, hc⟩ := hr k hk
    unfold Blk at hb
    rw [hb] at ho
    cases ho
    cases hc) (fun k hk => Or.inr (hr k (Option.mem_toList.1 hk)).1)
theorem Blk.own {B : Nat} {W W' : World} {row : Option Nat} {g : Nat} {cs : Array Value} {t : TypeId} (h : Blk W g cs t) (hg : W.grownBy W' row) (hr : ∀ r, row = some r → B ≤ r ∧ ∃ o : Obj, W.heap[r]? = some o ∧ o.isCells = false) : Blk W' g cs t :=
  (hg.block g h.lt (fun e => by
    obtain ⟨_, o, ho, hc⟩ := hr g e.symm
    unfold Blk at h
    rw [h] at ho
    cases ho
    cases hc)).trans h
theorem But.put {L : List Nat} {w1 W : World} {l : Nat} {o : Obj} (o' : Obj) (h : But L w1 W) (hl : w1.heap.size ≤ l) (ho : W.heap[l]? = some o) (hc : o.isCells = false) : But L w1 (W.putObj l o') :=
  h.own (grownBy_putObj' W l o') (fun r e => by cases e; exact ⟨hl, o, ho, hc⟩)
theorem Blk.put {W : World} {l g : Nat} {cs : Array Value} {t : TypeId} {o : Obj} (o' : Obj) (h : Blk W g cs t) (ho : W.heap[l]? = some o) (hc : o.isCells = false) : Blk (W.putObj l o') g cs t :=
  h.own (B := 0) (grownBy_putObj' W l o') (fun r e => by cases e; exact ⟨Nat.zero_le _, o, ho, hc⟩)
theorem But.whole {q : Nat} {W w1 W2 : World} (h : But [q] w1 W2) (hb : But [] W w1) (hq : W.heap.size ≤ q) : But [] W W2 := hb.trans2 h (by intro k hk; simp at hk; omega)
theorem But.keeps {q : Nat} {W W' : World} (h : But [q] W W') {B : Nat} (hq : q < B) : KeepsAll B W W' :=
  ⟨h.size, fun k hB hk => h.block k hk (by simp; omega)⟩
structure LoopI (first : LM) (A : Option Addr) (n c : Nat) (f : Nat → LR) (bad : Nat → Bool) (q : Nat) (w1 : World) (pre : List Nat) (W : World) : Prop where
  but : But [q] w1 W
  res : Blk W q #[.int .i64 0] 3
  le : pre.length ≤ n
  idx : firstIdx bad n 0 = firstIdx bad (n - pre.length) pre.length
def LoopX (n : Nat) (bad : Nat → Bool) (q : Nat) (w1 : World) (cd : Code) (pre : List Nat) (W : World) : Prop :=
  cd = .ret ∧ But [q] w1 W ∧ Blk W q #[.int .i64 (firstIdx bad n 0)] 3
theorem LoopI.own {first : LM} {A : Option Addr} {n c : Nat} {f : Nat → LR} {bad : Nat → Bool} {q : Nat} {w1 : World} : OwnFrom w1.heap.size (LoopI first A n c f bad q w1) :=
  fun s A' B' row hs hg hr => ⟨hs.but.own hg hr, hs.res.own hg hr, hs.le, hs.idx⟩
theorem But.keeps0 {W W' : World} (h : But [] W W') (B : Nat) : KeepsAll B W W' := ⟨h.size, fun k _ hk => h.block k hk (by simp)⟩
theorem LoopI.later {first : LM} {A : Option Addr} {n c : Nat} {f : Nat → LR} {bad : Nat → Bool} {q : Nat} {w1 : World} {pre : List Nat} {W W' : World} (h : LoopI first A n c f bad q w1 pre W) (hb : But [] W W') : LoopI first A n c f bad q w1 pre W' :=
  ⟨h.but.trans hb.nil, h.res.but hb (by simp), h.le, h.idx⟩
theorem left_at {bad : Nat → Bool} {n q v : Nat} {w1 Wst W : World} {xs : List Nat} (hq : q < w1.heap.size) (hk : KeepsAll w1.heap.size Wst W) (hb : But [q] w1 W) (hr : Blk W q #[.int .i64 0] 3) (hv : firstIdx bad n 0 = (v : Int)) :
    KeepsFrom w1.heap.size Wst (W.setCell ⟨q, 0, none⟩ (.int .i64 (v : Nat))) ∧ LoopX n bad q w1 .ret xs (W.setCell ⟨q, 0, none⟩ (.int .i64 (v : Nat))) := by
  refine ⟨(hk.trans (((But.refl [q] W).setCell (p := ⟨q, 0, none⟩) (Or.inl (by simp)) _).keeps hq)).from_, rfl, hb.setCell (p := ⟨q, 0, none⟩) (Or.inl (by simp)) _, ?_⟩
  rw [hv]
  exact hr.set 0 _
theorem left_alloc {bad : Nat → Bool} {n q v : Nat} {w1 Wst W : World} {xs : List Nat} (o : Obj) (hq : q < w1.heap.size) (hk : KeepsAll w1.heap.size Wst W) (hb : But [q] w1 W) (hr : Blk W q #[.int .i64 0] 3) (hv : firstIdx bad n 0 = (v : Int)) :
    KeepsFrom w1.heap.size Wst ((W.setCell ⟨q, 0, none⟩ (.int .i64 (v : Nat))).alloc o) ∧ LoopX n bad q w1 .ret xs ((W.setCell ⟨q, 0, none⟩ (.int .i64 (v : Nat))).alloc o) := by
  refine ⟨((hk.trans (((But.refl [q] W).setCell (p := ⟨q, 0, none⟩) (Or.inl (by simp)) _).keeps hq)).trans (((But.refl [] _).alloc o).keeps0 _)).from_, rfl, (hb.setCell (p := ⟨q, 0, none⟩) (Or.inl (by simp)) _).alloc o, ?_⟩
  rw [hv]
  exact (hr.set 0 _).alloc o
theorem on_at {first : LM} {A : Option Addr} {n c : Nat} {f : Nat → LR} {bad : Nat → Bool} {q j : Nat} {w1 Wst W : World} {pre : List Nat} (hk : KeepsAll w1.heap.size Wst W) (hb : But [q] w1 W) (hr : Blk W q #[.int .i64 0] 3) (hl : pre.length = j ∧ j < n) (hi : firstIdx bad n 0 = firstIdx bad (n - (j + 1)) (j + 1)) :
    KeepsAll w1.heap.size Wst W ∧ LoopI first A n c f bad q w1 (pre ++ [j]) W :=
  ⟨hk, hb, hr, by rw [List.length_append, hl.1]; exact hl.2, by rw [List.length_append, hl.1]; exact hi⟩
theorem LoopX.own {n : Nat} {bad : Nat → Bool} {q : Nat} {w1 : World} {cd : Code} : OwnFrom w1.heap.size (LoopX n bad q w1 cd) :=
  fun s A' B' row hs hg hr => ⟨hs.1, hs.2.1.own hg hr, hs.2.2.own hg hr⟩
set_option maxHeartbeats 8000000 in
theorem rises_any (B0 : Nat) (first : LM) (A : Option Addr) (n c : Nat) (f : Nat → LR) (W : World) (hR : RowsV W A n f) (hS : ShortR f) (hT : Tabs B0 W) (hB : B0 ≤ W.heap.size) (hE : ErrT W) :
    Calls Tryz.prog 11 #[msgAgg first, .slice A n c] W fun e w' => e = .returned (.int .i64 (firstIdx (badR first f) n 0)) ∧ But [] W w' := by
  obtain ⟨W0, hW0⟩ : ∃ W0, W0 = ((W.alloc (.cells #[.string (mkS first.h), .string (mkS first.p), .int .u64 (first.c : Nat), .int .u64 (first.w : Nat), .int .u64 (first.f : Nat), .int .u64 (first.l : Nat)] 24)).alloc (.cells #[.slice A n c] 25)).alloc (.cells #[.int .i64 0] 3) := ⟨_, rfl⟩
  have hs0 : W0.heap.size = W.heap.size + 3 := by rw [hW0]; simp
  have bb0 : But [] W W0 := by rw [hW0]; exact (((But.refl [] W).alloc _).alloc _).alloc _
  have bx0 : Blk W0 W.heap.size #[.string (mkS first.h), .string (mkS first.p), .int .u64 (first.c : Nat), .int .u64 (first.w : Nat), .int .u64 (first.f : Nat), .int .u64 (first.l : Nat)] 24 := by rw [hW0]; exact ((Blk.new W _ _).alloc _).alloc _
  have bx1 : Blk W0 (W.heap.size + 1) #[.slice A n c] 25 := by
    rw [hW0]
    have := (Blk.new (W.alloc (.cells #[.string (mkS first.h), .string (mkS first.p), .int .u64 (first.c : Nat), .int .u64 (first.w : Nat), .int .u64 (first.f : Nat), .int .u64 (first.l : Nat)] 24)) #[.slice A n c] 25).alloc (.cells #[.int .i64 0] 3)
    rwa [World.size_alloc] at this
  have bx2 : Blk W0 (W.heap.size + 1 + 1) #[.int .i64 0] 3 := by
    rw [hW0]
    have := Blk.new ((W.alloc (.cells #[.string (mkS first.h), .string (mkS first.p), .int .u64 (first.c : Nat), .int .u64 (first.w : Nat), .int .u64 (first.f : Nat), .int .u64 (first.l : Nat)] 24)).alloc (.cells #[.slice A n c] 25)) #[.int .i64 0] 3
    rwa [World.size_alloc, World.size_alloc] at this
  obtain ⟨w1, hw1⟩ : ∃ w1, w1 = (W0.alloc (.cells #[.string (mkS first.h), .string (mkS first.p), .int .u64 (first.c : Nat), .int .u64 (first.w : Nat), .int .u64 (first.f : Nat), .int .u64 (first.l : Nat)] 24)).alloc (.cells #[.slice A n c] 25) := ⟨_, rfl⟩
  have hs1 : w1.heap.size = W.heap.size + 5 := by rw [hw1]; simp [hs0]
  have bb1 : But [] W0 w1 := by rw [hw1]; exact ((But.refl [] W0).alloc _).alloc _
  have bx3 : Blk w1 (W.heap.size + 3) #[.string (mkS first.h), .string (mkS first.p), .int .u64 (first.c : Nat), .int .u64 (first.w : Nat), .int .u64 (first.f : Nat), .int .u64 (first.l : Nat)] 24 := by
    rw [hw1, ← hs0]; exact (Blk.new W0 _ _).alloc _
  have bx4 : Blk w1 (W.heap.size + 4) #[.slice A n c] 25 := by
    rw [hw1]
    have := Blk.new (W0.alloc (.cells #[.string (mkS first.h), .string (mkS first.p), .int .u64 (first.c : Nat), .int .u64 (first.w : Nat), .int .u64 (first.f : Nat), .int .u64 (first.l : Nat)] 24)) #[.slice A n c] 25
    rwa [World.size_alloc, hs0] at this
  have BB := Shut.mk (And.intro bb0 bb1)
  have SZ := Shut.mk (And.intro hs0 hs1)
  have BX := Shut.mk (And.intro bx0 (And.intro (bx1.but bb1 (by simp)) (And.intro (bx2.but bb1 (by simp)) (And.intro bx3 bx4))))
  have RV := Shut.mk hR
  have HSH := Shut.mk hS
  have HTT := Shut.mk (And.intro hT (And.intro hB hE))
  have ST := Shut.mk (steps_any first A n c W0)
  simp only [msgAgg] at ST
  rw [← hw1, hs0] at ST
  have z0 : W0.cell? ⟨W.heap.size, 0, none⟩ = some (.string (mkS first.h)) := bx0.cell 0 rfl
  have z1 : W0.cell? ⟨W.heap.size, 1, none⟩ = some (.string (mkS first.p)) := bx0.cell 1 rfl
  have z2 : W0.cell? ⟨W.heap.size, 2, none⟩ = some (.int .u64 (first.c : Nat)) := bx0.cell 2 rfl
  have z3 : W0.cell? ⟨W.heap.size, 3, none⟩ = some (.int .u64 (first.w : Nat)) := bx0.cell 3 rfl
  have z4 : W0.cell? ⟨W.heap.size, 4, none⟩ = some (.int .u64 (first.f : Nat)) := bx0.cell 4 rfl
  have z5 : W0.cell? ⟨W.heap.size, 5, none⟩ = some (.int .u64 (first.l : Nat)) := bx0.cell 5 rfl
  have zl := bx0.lt
  have y0 := bx1.cell 0 rfl
  have yl := bx1.lt
  have HW0 := Shut.mk hW0
  clear hR hS hT hB hE hs0 hs1 hw1 bb0 bb1 bx0 bx1 bx2 bx3 bx4 hW0
  simp only [msgAgg]
  refine (callsIn_wide (n := 3)).1 ?_
  refine callsIn_of_wp_marks Tryz.func11 rfl trivial ?_ rfl
  simp only [Tryz.ntmps11, List.size_toArray, List.length_cons, List.length_nil, Nat.reduceAdd, Nat.reduceSub, Array.replicate_succ, Array.replicate_zero, List.push_toArray, List.append_toArray, List.nil_append, List.cons_append]
  gi_wp2_with fail
  rw [← HW0.out]
  refine ⟨trivial, (callsIn_wide.2 ST.out).mono ?_⟩
  rintro e w' ⟨rfl, hw⟩
  rw [hw]
  clear hw w'
  have b0 := BX.out.2.2.1
  clear z0 z1 z2 z3 z4 z5 zl y0 yl ST
  gi_wp2_with fail
  refine wpIn_rangeFunc_invH (w := w1) rfl (by omega) (gf := 69) (lb := #[.pointer (some ⟨W.heap.size + 3, 0, none⟩), .pointer (some ⟨W.heap.size + 3 + 1, 0, none⟩)]) rfl trivial
    (enters_of Tryz.func69 (by kernel_rfl) rfl) (encs := stepEnc first f) (fun _ => rfl) (S := fun xs => xs.length = n)
    (LoopI first A n c f (badR first f) (W.heap.size + 1 + 1) w1)
    (fun p W' => LoopI first A n c f (badR first f) (W.heap.size + 1 + 1) w1 p.1 W' ∧ p.2 = p.1.length ∧ p.1.length < n)
    (fun p a' W' => ∃ b, w1.heap.size ≤ b ∧ Blk W' b #[.int .i64 (p.2 : Nat), .string (mkS (nowAt first f p.2).h), .string (mkS (nowAt first f p.2).p), .int .u64 ((nowAt first f p.2).c : Nat), .int .u64 ((nowAt first f p.2).w : Nat), .int .u64 ((nowAt first f p.2).f : Nat), .int .u64 ((nowAt first f p.2).l : Nat)] 74 ∧ Blk W' (b + 1) (rowC (f p.2)).toArray 31 ∧ a' = { tmps := #[.agg #[.string (mkS first.h), .string (mkS first.p), .int .u64 (first.c : Nat), .int .u64 (first.w : Nat), .int .u64 (first.f : Nat), .int .u64 (first.l : Nat)], .slice A n c, .pointer (some ⟨W.heap.size, 0, none⟩), .pointer (some ⟨W.heap.size + 1, 0, none⟩), .pointer (some ⟨W.heap.size + 1 + 1, 0, none⟩), .pointer (some ⟨b, 0, none⟩), .pointer (some ⟨b + 1, 0, none⟩), undef, undef, .agg #[.string (mkS first.h), .string (mkS first.p), .int .u64 (first.c : Nat), .int .u64 (first.w : Nat), .int .u64 (first.f : Nat), .int .u64 (first.l : Nat)], .slice A n c, .func (.func 69) #[] #[.pointer (some ⟨W.heap.size + 3, 0, none⟩), .pointer (some ⟨W.heap.size + 3 + 1, 0, none⟩)], .agg #[.int .i64 (p.2 : Nat), .string (mkS (nowAt first f p.2).h), .string (mkS (nowAt first f p.2).p), .int .u64 ((nowAt first f p.2).c : Nat), .int .u64 ((nowAt first f p.2).w : Nat), .int .u64 ((nowAt first f p.2).f : Nat), .int .u64 ((nowAt first f p.2).l : Nat)], rowAgg (f p.2), undef, undef, undef, undef, undef, undef, undef, undef, undef, undef, undef, undef, undef, undef, undef, undef, undef, undef, undef, undef, undef, undef, undef, undef, undef, undef, undef, undef, undef, undef, undef, undef, undef, undef, undef, undef, undef, undef, undef, undef, undef, undef, undef, undef, undef, undef, undef, undef, undef, undef, undef, undef, undef, undef, undef, undef, undef, undef], defers := [] } ∧
      LoopI first A n c f (badR first f) (W.heap.size + 1 + 1) w1 p.1 W' ∧ p.2 = p.1.length ∧ p.1.length < n)
    (LoopX n (badR first f) (W.heap.size + 1 + 1) w1)
    LoopI.own
    (fun a' => OwnFrom.stays (fun s A' B' row hs hg hr => by
      obtain ⟨b, h1, h2, h3, h4, h5, h6⟩ := hs
      exact ⟨b, h1, h2.own hg hr, h3.own hg hr, h4, LoopI.own _ _ _ _ h5 hg hr, h6⟩))
    (fun cd => OwnFrom.stays LoopX.own) ⟨But.refl _ _, b0, Nat.zero_le _, rfl⟩ ?assign ?body ?iter ?done ?stop
  case assign =>
    rintro l pre x W' K ⟨hI, hx, hlt⟩ hK
    dsimp only at hI hx hlt
    simp only [stepEnc, rowAgg]
    have X1 := Blk.new W' #[.int .i64 (x : Nat), .string (mkS (nowAt first f x).h), .string (mkS (nowAt first f x).p), .int .u64 ((nowAt first f x).c : Nat), .int .u64 ((nowAt first f x).w : Nat), .int .u64 ((nowAt first f x).f : Nat), .int .u64 ((nowAt first f x).l : Nat)] 74
    have A1 := (But.refl [] W').alloc (.cells #[.int .i64 (x : Nat), .string (mkS (nowAt first f x).h), .string (mkS (nowAt first f x).p), .int .u64 ((nowAt first f x).c : Nat), .int .u64 ((nowAt first f x).w : Nat), .int .u64 ((nowAt first f x).f : Nat), .int .u64 ((nowAt first f x).l : Nat)] 74)
    have hz : (W'.alloc (.cells #[.int .i64 (x : Nat), .string (mkS (nowAt first f x).h), .string (mkS (nowAt first f x).p), .int .u64 ((nowAt first f x).c : Nat), .int .u64 ((nowAt first f x).w : Nat), .int .u64 ((nowAt first f x).f : Nat), .int .u64 ((nowAt first f x).l : Nat)] 74)).heap.size = W'.heap.size + 1 := Array.size_push _
    have X2 := Blk.new (W'.alloc (.cells #[.int .i64 (x : Nat), .string (mkS (nowAt first f x).h), .string (mkS (nowAt first f x).p), .int .u64 ((nowAt first f x).c : Nat), .int .u64 ((nowAt first f x).w : Nat), .int .u64 ((nowAt first f x).f : Nat), .int .u64 ((nowAt first f x).l : Nat)] 74)) (rowC (f x)).toArray 31
    rw [hz] at X2
    have A2 := Shut.mk (A1.alloc (.cells (rowC (f x)).toArray 31))
    have X12 := Shut.mk (And.intro (X1.but ((But.refl [] _).alloc (.cells (rowC (f x)).toArray 31)) (by simp)) X2)
    have HI := Shut.mk (And.intro hI (And.intro hx hlt))
    have HK := Shut.mk hK
    clear X1 A1 hz X2 hI hx hlt hK
    gi_wp2
    exact HK.out _ _ (A2.out.keeps0 _) ⟨W'.heap.size, HI.out.1.but.size, X12.out.1, X12.out.2, rfl, HI.out.1.later A2.out, HI.out.2⟩
  case body =>
    rintro l pre j a' W' ⟨b, hb, hst, hrw, rfl, hI, hx, hjn⟩
    dsimp only at hst hrw hI hx hjn ⊢
    rw [← hx] at hjn
    obtain ⟨r, hr⟩ : ∃ r, r = f j := ⟨_, rfl⟩
    obtain ⟨nw, hnw⟩ : ∃ nw, nw = nowAt first f j := ⟨_, rfl⟩
    simp only [rowAgg]
    rw [← hr] at hrw ⊢
    rw [← hnw] at hst ⊢
    have BR := Shut.mk (badR_eq first f j)
    rw [← hr, ← hnw] at BR
    have HP := Shut.mk hI.idx
    rw [← hx, show n - j = (n - (j + 1)) + 1 by omega, firstIdx] at HP
    have HQB : Shut (W.heap.size + 1 + 1 < w1.heap.size) := ⟨by have := SZ.out.2; omega⟩
    have HBW : Shut (But [] W W') := ⟨(BB.out.1.trans BB.out.2).trans2 hI.but (by intro k hk; simp at hk; omega)⟩
    have HBQ := Shut.mk hI.but
    have RES := Shut.mk hI.res
    have HLE : Shut (pre.length = j ∧ j < n) := ⟨hx.symm, hjn⟩
    have HRR := Shut.mk hr
    have ST7 := Shut.mk hst
    have RW7 := Shut.mk hrw
    have RB := Shut.mk (row_range hrw)
    have hlb := hrw.lt
    have HBB := Shut.mk hb
    have BXR := Shut.mk (BX.out.2.1.but hI.but (by simp))
    have HT := Shut.mk (takes_any r W')
    simp only [rowAgg] at HT
    have RVW := Shut.mk (RV.out.but HBW.out)
    have hn1 := RV.out.1
    obtain ⟨g, hA, hrg⟩ := RVW.out.2 (by omega)
    have RGG := Shut.mk hrg
    have hjn' : (j : Int) < (n : Int) := by omega
    have HSR : Shut (r.msg.length < 4000000000000000000) := ⟨by rw [hr]; have := (HSH.out j).1; omega⟩
    clear hst hrw hI hx hr hnw hb hrg
    subst hA
    gi_wp2_with (refine wpListIn_load_mid rfl 31 (.tmp 6) rfl (b + 1) (0) rfl [.int .i64 r.kind, .string (mkS r.cert), .string (mkS r.msg), .string (mkS r.hdr), .slice r.pa r.pn r.pc, .string (mkS r.body), .int .u64 (r.pos : Nat), .slice r.qa r.qn r.qc, .int .u64 (r.count : Nat), .int .i64 r.cl, .int .i64 r.mo, .string (mkS r.tr.h), .string (mkS r.tr.p), .int .u64 (r.tr.c : Nat), .int .u64 (r.tr.w : Nat), .int .u64 (r.tr.f : Nat), .int .u64 (r.tr.l : Nat), .string (mkS r.dg)] _ RB.out Tryz.underlying31 rfl (by kernel_rfl) ?_)
    refine ⟨trivial, (CallsIn.inRound l (callsIn_wide.2 HT.out)).mono ?_⟩
    rintro e w2 ⟨rfl, hb2⟩
    have HBW2 := Shut.mk (HBW.out.trans hb2)
    have HBQ2 := Shut.mk (HBQ.out.trans hb2.nil)
    have HK2 := Shut.mk (hb2.keeps0 w1.heap.size)
    have ST2 := Shut.mk (ST7.out.but hb2 (by simp))
    have RW2 := Shut.mk (RW7.out.but hb2 (by simp))
    have RG2 := Shut.mk (RGG.out.but hb2 (by simp))
    have RES2 := Shut.mk (RES.out.but hb2 (by simp))
    have BXR2 := Shut.mk (BXR.out.but hb2 (by simp))
    clear hb2 hlb
    rcases htk : tk r with _ | _
    · rw [htk, if_neg (by decide)] at BR
      have NE := Shut.mk (fun w => neq_msg r.tr nw w)
      rcases hsm : sameM r.tr nw with _ | _
      · rw [hsm] at NE
        have hne := NE.out
        have sc := ST2.out
        have s0 : w2.cell? ⟨b, 0, none⟩ = some (.int .i64 (j : Nat)) := sc.cell 0 rfl
        have s1 : w2.cell? ⟨b, 1, none⟩ = some (.string (mkS nw.h)) := sc.cell 1 rfl
        have s2 : w2.cell? ⟨b, 2, none⟩ = some (.string (mkS nw.p)) := sc.cell 2 rfl
        have s3 : w2.cell? ⟨b, 3, none⟩ = some (.int .u64 (nw.c : Nat)) := sc.cell 3 rfl
        have s4 : w2.cell? ⟨b, 4, none⟩ = some (.int .u64 (nw.w : Nat)) := sc.cell 4 rfl
        have s5 : w2.cell? ⟨b, 5, none⟩ = some (.int .u64 (nw.f : Nat)) := sc.cell 5 rfl
        have s6 : w2.cell? ⟨b, 6, none⟩ = some (.int .u64 (nw.l : Nat)) := sc.cell 6 rfl
        have sl := sc.lt
        have rc := RW2.out
        have r2 : w2.cell? ⟨b + 1, 2, none⟩ = some (.string (mkS r.msg)) := rc.cell 2 rfl
        have r11 : w2.cell? ⟨b + 1, 11, none⟩ = some (.string (mkS r.tr.h)) := rc.cell 11 rfl
        have r12 : w2.cell? ⟨b + 1, 12, none⟩ = some (.string (mkS r.tr.p)) := rc.cell 12 rfl
        have r13 : w2.cell? ⟨b + 1, 13, none⟩ = some (.int .u64 (r.tr.c : Nat)) := rc.cell 13 rfl
        have r14 : w2.cell? ⟨b + 1, 14, none⟩ = some (.int .u64 (r.tr.w : Nat)) := rc.cell 14 rfl
        have r15 : w2.cell? ⟨b + 1, 15, none⟩ = some (.int .u64 (r.tr.f : Nat)) := rc.cell 15 rfl
        have r16 : w2.cell? ⟨b + 1, 16, none⟩ = some (.int .u64 (r.tr.l : Nat)) := rc.cell 16 rfl
        have r17 : w2.cell? ⟨b + 1, 17, none⟩ = some (.string (mkS r.dg)) := rc.cell 17 rfl
        have rl := rc.lt
        have q0 := RES2.out.cell 0 rfl
        have qf := RES2.out.frozen 0
        have ql := RES2.out.lt
        have x0 := BXR2.out.cell 0 rfl
        have xl := BXR2.out.lt
        have gl := RG2.out.1
        clear sc rc
        gi_wp2_with fail
        refine wpIn_round_quiet (by kernel_rfl) (by kernel_rfl) (by kernel_rfl) ?_
        repeat (go_big_quiet_step (fail))
        refine wpQuiet_nil ?_
        intro _ hw'
        obtain ⟨nq, hw''⟩ := hw'
        subst hw''
        gi_wp2_with fail
        exact left_at HQB.out (HK2.out.trans ((But.drewN _ _).keeps0 _)) (HBQ2.out.trans (But.drewN _ _).nil) (RES2.out.but (But.drewN _ _) (by simp)) (by rw [HP.out, BR.out, hsm]; rfl)
      · rw [hsm] at NE BR
        have hne := NE.out
        have E1 : (mkS r.dg).toList = r.dg := mkS_list _
        by_cases hj0 : j = 0
        · have hd : decide ((j : Int) > 0) = false := by rw [hj0]; rfl
          have hd4 : decide (0 < j) = false := by rw [hj0]; rfl
          have sc := ST2.out
          have s0 : w2.cell? ⟨b, 0, none⟩ = some (.int .i64 (j : Nat)) := sc.cell 0 rfl
          have s1 : w2.cell? ⟨b, 1, none⟩ = some (.string (mkS nw.h)) := sc.cell 1 rfl
          have s2 : w2.cell? ⟨b, 2, none⟩ = some (.string (mkS nw.p)) := sc.cell 2 rfl
          have s3 : w2.cell? ⟨b, 3, none⟩ = some (.int .u64 (nw.c : Nat)) := sc.cell 3 rfl
          have s4 : w2.cell? ⟨b, 4, none⟩ = some (.int .u64 (nw.w : Nat)) := sc.cell 4 rfl
          have s5 : w2.cell? ⟨b, 5, none⟩ = some (.int .u64 (nw.f : Nat)) := sc.cell 5 rfl
          have s6 : w2.cell? ⟨b, 6, none⟩ = some (.int .u64 (nw.l : Nat)) := sc.cell 6 rfl
          have sl := sc.lt
          have rc := RW2.out
          have r2 : w2.cell? ⟨b + 1, 2, none⟩ = some (.string (mkS r.msg)) := rc.cell 2 rfl
          have r11 : w2.cell? ⟨b + 1, 11, none⟩ = some (.string (mkS r.tr.h)) := rc.cell 11 rfl
          have r12 : w2.cell? ⟨b + 1, 12, none⟩ = some (.string (mkS r.tr.p)) := rc.cell 12 rfl
          have r13 : w2.cell? ⟨b + 1, 13, none⟩ = some (.int .u64 (r.tr.c : Nat)) := rc.cell 13 rfl
          have r14 : w2.cell? ⟨b + 1, 14, none⟩ = some (.int .u64 (r.tr.w : Nat)) := rc.cell 14 rfl
          have r15 : w2.cell? ⟨b + 1, 15, none⟩ = some (.int .u64 (r.tr.f : Nat)) := rc.cell 15 rfl
          have r16 : w2.cell? ⟨b + 1, 16, none⟩ = some (.int .u64 (r.tr.l : Nat)) := rc.cell 16 rfl
          have r17 : w2.cell? ⟨b + 1, 17, none⟩ = some (.string (mkS r.dg)) := rc.cell 17 rfl
          have rl := rc.lt
          have q0 := RES2.out.cell 0 rfl
          have qf := RES2.out.frozen 0
          have ql := RES2.out.lt
          have x0 := BXR2.out.cell 0 rfl
          have xl := BXR2.out.lt
          have gl := RG2.out.1
          clear sc rc
          have HJ0 := Shut.mk hj0
          clear hj0
          gi_wp2_with fail
          refine wpIn_round_quiet (by kernel_rfl) (by kernel_rfl) (by kernel_rfl) ?_
          repeat (go_big_quiet_step (fail))
          refine wpQuiet_nil ?_
          intro _ hw'
          obtain ⟨nq, hw''⟩ := hw'
          subst hw''
          gi_wp2_with fail
          exact on_at (HK2.out.trans ((But.drewN _ _).keeps0 _)) (HBQ2.out.trans (But.drewN _ _).nil) (RES2.out.but (But.drewN _ _) (by simp)) HLE.out (by rw [HP.out, BR.out, HJ0.out]; rfl)
        · obtain ⟨k, hk⟩ : ∃ k, j = k + 1 := ⟨j - 1, by omega⟩
          have hd : decide ((j : Int) > 0) = true := decide_eq_true (by omega)
          have hd2 : (j : Int) > 0 := by omega
          have hd3 : 0 < j := by omega
          have hk1 : (j : Int) - 1 = (k : Int) := by omega
          have hkn : (k : Int) < (n : Int) := by omega
          have hk17 := (RG2.out.at (show k < n by omega)).c17
          obtain ⟨pd, hpd⟩ : ∃ pd, pd = (f k).dg := ⟨_, rfl⟩
          rw [← hpd] at hk17
          have E2 : (mkS pd).toList = pd := mkS_list _
          have BR2 : Shut (badR first f j = (!true || (true && !(r.dg == pd)))) := ⟨by
            rw [BR.out, hpd, show decide (0 < j) = true from decide_eq_true (by omega), show j - 1 = k by omega]⟩
          have sc := ST2.out
          have s0 : w2.cell? ⟨b, 0, none⟩ = some (.int .i64 (j : Nat)) := sc.cell 0 rfl
          have s1 : w2.cell? ⟨b, 1, none⟩ = some (.string (mkS nw.h)) := sc.cell 1 rfl
          have s2 : w2.cell? ⟨b, 2, none⟩ = some (.string (mkS nw.p)) := sc.cell 2 rfl
          have s3 : w2.cell? ⟨b, 3, none⟩ = some (.int .u64 (nw.c : Nat)) := sc.cell 3 rfl
          have s4 : w2.cell? ⟨b, 4, none⟩ = some (.int .u64 (nw.w : Nat)) := sc.cell 4 rfl
          have s5 : w2.cell? ⟨b, 5, none⟩ = some (.int .u64 (nw.f : Nat)) := sc.cell 5 rfl
          have s6 : w2.cell? ⟨b, 6, none⟩ = some (.int .u64 (nw.l : Nat)) := sc.cell 6 rfl
          have sl := sc.lt
          have rc := RW2.out
          have r2 : w2.cell? ⟨b + 1, 2, none⟩ = some (.string (mkS r.msg)) := rc.cell 2 rfl
          have r11 : w2.cell? ⟨b + 1, 11, none⟩ = some (.string (mkS r.tr.h)) := rc.cell 11 rfl
          have r12 : w2.cell? ⟨b + 1, 12, none⟩ = some (.string (mkS r.tr.p)) := rc.cell 12 rfl
          have r13 : w2.cell? ⟨b + 1, 13, none⟩ = some (.int .u64 (r.tr.c : Nat)) := rc.cell 13 rfl
          have r14 : w2.cell? ⟨b + 1, 14, none⟩ = some (.int .u64 (r.tr.w : Nat)) := rc.cell 14 rfl
          have r15 : w2.cell? ⟨b + 1, 15, none⟩ = some (.int .u64 (r.tr.f : Nat)) := rc.cell 15 rfl
          have r16 : w2.cell? ⟨b + 1, 16, none⟩ = some (.int .u64 (r.tr.l : Nat)) := rc.cell 16 rfl
          have r17 : w2.cell? ⟨b + 1, 17, none⟩ = some (.string (mkS r.dg)) := rc.cell 17 rfl
          have rl := rc.lt
          have q0 := RES2.out.cell 0 rfl
          have qf := RES2.out.frozen 0
          have ql := RES2.out.lt
          have x0 := BXR2.out.cell 0 rfl
          have xl := BXR2.out.lt
          have gl := RG2.out.1
          clear sc rc
          clear hk hpd hj0
          rcases hdg : (r.dg == pd) with _ | _
          · gi_wp2_with fail
            refine wpIn_round_quiet (by kernel_rfl) (by kernel_rfl) (by kernel_rfl) ?_
            repeat (go_big_quiet_step (fail))
            refine wpQuiet_nil ?_
            intro _ hw'
            obtain ⟨nq, hw''⟩ := hw'
            subst hw''
            gi_wp2_with fail
            exact left_at HQB.out (HK2.out.trans ((But.drewN _ _).keeps0 _)) (HBQ2.out.trans (But.drewN _ _).nil) (RES2.out.but (But.drewN _ _) (by simp)) (by rw [HP.out, BR2.out, hdg]; rfl)
          · gi_wp2_with fail
            refine wpIn_round_quiet (by kernel_rfl) (by kernel_rfl) (by kernel_rfl) ?_
            repeat (go_big_quiet_step (fail))
            refine wpQuiet_nil ?_
            intro _ hw'
            obtain ⟨nq, hw''⟩ := hw'
            subst hw''
            gi_wp2_with fail
            exact on_at (HK2.out.trans ((But.drewN _ _).keeps0 _)) (HBQ2.out.trans (But.drewN _ _).nil) (RES2.out.but (But.drewN _ _) (by simp)) HLE.out (by rw [HP.out, BR2.out, hdg]; rfl)
    · rw [htk, if_pos rfl] at BR
      have sc := ST2.out
      have s0 : w2.cell? ⟨b, 0, none⟩ = some (.int .i64 (j : Nat)) := sc.cell 0 rfl
      have s1 : w2.cell? ⟨b, 1, none⟩ = some (.string (mkS nw.h)) := sc.cell 1 rfl
      have s2 : w2.cell? ⟨b, 2, none⟩ = some (.string (mkS nw.p)) := sc.cell 2 rfl
      have s3 : w2.cell? ⟨b, 3, none⟩ = some (.int .u64 (nw.c : Nat)) := sc.cell 3 rfl
      have s4 : w2.cell? ⟨b, 4, none⟩ = some (.int .u64 (nw.w : Nat)) := sc.cell 4 rfl
      have s5 : w2.cell? ⟨b, 5, none⟩ = some (.int .u64 (nw.f : Nat)) := sc.cell 5 rfl
      have s6 : w2.cell? ⟨b, 6, none⟩ = some (.int .u64 (nw.l : Nat)) := sc.cell 6 rfl
      have sl := sc.lt
      have rc := RW2.out
      have r2 : w2.cell? ⟨b + 1, 2, none⟩ = some (.string (mkS r.msg)) := rc.cell 2 rfl
      have r11 : w2.cell? ⟨b + 1, 11, none⟩ = some (.string (mkS r.tr.h)) := rc.cell 11 rfl
      have r12 : w2.cell? ⟨b + 1, 12, none⟩ = some (.string (mkS r.tr.p)) := rc.cell 12 rfl
      have r13 : w2.cell? ⟨b + 1, 13, none⟩ = some (.int .u64 (r.tr.c : Nat)) := rc.cell 13 rfl
      have r14 : w2.cell? ⟨b + 1, 14, none⟩ = some (.int .u64 (r.tr.w : Nat)) := rc.cell 14 rfl
      have r15 : w2.cell? ⟨b + 1, 15, none⟩ = some (.int .u64 (r.tr.f : Nat)) := rc.cell 15 rfl
      have r16 : w2.cell? ⟨b + 1, 16, none⟩ = some (.int .u64 (r.tr.l : Nat)) := rc.cell 16 rfl
      have r17 : w2.cell? ⟨b + 1, 17, none⟩ = some (.string (mkS r.dg)) := rc.cell 17 rfl
      have rl := rc.lt
      have q0 := RES2.out.cell 0 rfl
      have qf := RES2.out.frozen 0
      have ql := RES2.out.lt
      have x0 := BXR2.out.cell 0 rfl
      have xl := BXR2.out.lt
      have gl := RG2.out.1
      clear sc rc
      gi_wp2_with fail
      refine ⟨trivial, (CallsIn.inRound l (callsIn_wide.2 (readMsg_any B0 r.msg w2 HSR.out (HTT.out.1.below (HBW2.out.below HTT.out.2.1 (by simp))) (Nat.le_trans HTT.out.2.1 HBW2.out.size) (HTT.out.2.2.but HBW2.out (by simp))))).mono ?_⟩
      rintro e w3 ⟨v, rfl, hv, hb3⟩
      have HBQ3 := Shut.mk (HBQ2.out.trans hb3.nil)
      have HK3 := Shut.mk (HK2.out.trans (hb3.keeps0 w1.heap.size))
      have ST3 := Shut.mk (ST2.out.but hb3 (by simp))
      have RW3 := Shut.mk (RW2.out.but hb3 (by simp))
      have RES3 := Shut.mk (RES2.out.but hb3 (by simp))
      have RG3 := Shut.mk (RG2.out.but hb3 (by simp))
      have BXR3 := Shut.mk (BXR2.out.but hb3 (by simp))
      clear hb3 s0 s1 s2 s3 s4 s5 s6 sl r2 r11 r12 r13 r14 r15 r16 r17 rl q0 qf ql x0 xl gl
      have sc := ST3.out
      have s0 : w3.cell? ⟨b, 0, none⟩ = some (.int .i64 (j : Nat)) := sc.cell 0 rfl
      have s1 : w3.cell? ⟨b, 1, none⟩ = some (.string (mkS nw.h)) := sc.cell 1 rfl
      have s2 : w3.cell? ⟨b, 2, none⟩ = some (.string (mkS nw.p)) := sc.cell 2 rfl
      have s3 : w3.cell? ⟨b, 3, none⟩ = some (.int .u64 (nw.c : Nat)) := sc.cell 3 rfl
      have s4 : w3.cell? ⟨b, 4, none⟩ = some (.int .u64 (nw.w : Nat)) := sc.cell 4 rfl
      have s5 : w3.cell? ⟨b, 5, none⟩ = some (.int .u64 (nw.f : Nat)) := sc.cell 5 rfl
      have s6 : w3.cell? ⟨b, 6, none⟩ = some (.int .u64 (nw.l : Nat)) := sc.cell 6 rfl
      have sl := sc.lt
      have rc := RW3.out
      have r2 : w3.cell? ⟨b + 1, 2, none⟩ = some (.string (mkS r.msg)) := rc.cell 2 rfl
      have r11 : w3.cell? ⟨b + 1, 11, none⟩ = some (.string (mkS r.tr.h)) := rc.cell 11 rfl
      have r12 : w3.cell? ⟨b + 1, 12, none⟩ = some (.string (mkS r.tr.p)) := rc.cell 12 rfl
      have r13 : w3.cell? ⟨b + 1, 13, none⟩ = some (.int .u64 (r.tr.c : Nat)) := rc.cell 13 rfl
      have r14 : w3.cell? ⟨b + 1, 14, none⟩ = some (.int .u64 (r.tr.w : Nat)) := rc.cell 14 rfl
      have r15 : w3.cell? ⟨b + 1, 15, none⟩ = some (.int .u64 (r.tr.f : Nat)) := rc.cell 15 rfl
      have r16 : w3.cell? ⟨b + 1, 16, none⟩ = some (.int .u64 (r.tr.l : Nat)) := rc.cell 16 rfl
      have r17 : w3.cell? ⟨b + 1, 17, none⟩ = some (.string (mkS r.dg)) := rc.cell 17 rfl
      have rl := rc.lt
      have q0 := RES3.out.cell 0 rfl
      have qf := RES3.out.frozen 0
      have ql := RES3.out.lt
      have x0 := BXR3.out.cell 0 rfl
      have xl := BXR3.out.lt
      have gl := RG3.out.1
      clear sc rc
      rcases hmo : msgOf r.msg with _ | rs
      · simp only [MsgAns, hmo] at hv
        rw [hmo] at BR
        obtain ⟨p, rfl⟩ := hv
        have hml : msgCells [] = #[.string ⟨#[]⟩, .string ⟨#[]⟩, .int .u64 0, .int .u64 0, .int .u64 0, .int .u64 0] := rfl
        rw [hml]
        clear hml hmo
        have A4 := Shut.mk ((But.refl [] w3).alloc (.cells #[.string ⟨#[]⟩, .string ⟨#[]⟩, .int .u64 0, .int .u64 0, .int .u64 0, .int .u64 0] 24))
        gi_wp2_with fail
        exact left_alloc _ HQB.out HK3.out HBQ3.out RES3.out (by rw [HP.out, BR.out]; rfl)
      · simp only [MsgAns, hmo] at hv
        rw [hmo] at BR
        subst hv
        have hmc : msgCells rs = #[.string (mkS (msgVal rs).h), .string (mkS (msgVal rs).p), .int .u64 ((msgVal rs).c : Nat), .int .u64 ((msgVal rs).w : Nat), .int .u64 ((msgVal rs).f : Nat), .int .u64 ((msgVal rs).l : Nat)] := rfl
        rw [hmc]
        have BR' := BR.out
        simp only at BR'
        have BRS := Shut.mk BR'
        clear hmc hmo BR' BR
        generalize msgVal rs = m at *
        have A4 := Shut.mk ((But.refl [] w3).alloc (.cells #[.string (mkS m.h), .string (mkS m.p), .int .u64 (m.c : Nat), .int .u64 (m.w : Nat), .int .u64 (m.f : Nat), .int .u64 (m.l : Nat)] 24))
        obtain ⟨y, hy⟩ : ∃ y, y = IntKind.u64.wrap ((nw.l : Int) + 1) := ⟨_, rfl⟩
        rw [← hy] at BRS
        have W1 := hy.symm
        clear hy
        have NE := Shut.mk (fun w => neq_msg m r.tr w)
        rcases hsm : sameM m r.tr with _ | _
        · rw [hsm] at NE BRS
          have hne := NE.out
          gi_wp2_with fail
          exact left_alloc _ HQB.out HK3.out HBQ3.out RES3.out (by rw [HP.out, BRS.out]; rfl)
        · rw [hsm] at NE BRS
          have hne := NE.out
          rcases hq : ((nw.l : Int) == 18446744073709551615) with _ | _
          · rw [hq] at BRS
            rcases hf : ((m.f : Int) != y) with _ | _
            · rw [hf] at BRS
              gi_wp2_with fail
              exact on_at (HK3.out.trans (A4.out.keeps0 _)) (HBQ3.out.trans A4.out.nil) (RES3.out.but A4.out (by simp)) HLE.out (by rw [HP.out, BRS.out]; rfl)
            · rw [hf] at BRS
              gi_wp2_with fail
              exact left_alloc _ HQB.out HK3.out HBQ3.out RES3.out (by rw [HP.out, BRS.out]; rfl)
          · rw [hq] at BRS
            gi_wp2_with fail
            exact left_alloc _ HQB.out HK3.out HBQ3.out RES3.out (by rw [HP.out, BRS.out]; rfl)
  case iter =>
    intro l R Rx hl hR hRx hlt hY W' hIW hRW
    refine (steps_in first A n c f (W.heap.size + 3) (W.heap.size + 3 + 1) w1.heap.size (LoopI first A n c f (badR first f) (W.heap.size + 1 + 1) w1) (LoopX n (badR first f) (W.heap.size + 1 + 1) w1)
      (fun pre W o h => h.later ((But.refl [] W).alloc o))
      (fun pre W p v h hp => ⟨h.but.setCell (Or.inr hp) v, h.res.far (by have := SZ.out.2; omega) v, h.le, h.idx⟩)
      (fun pre W2 h => ⟨BX.out.2.2.2.1.but h.but (by simp), BX.out.2.2.2.2.but h.but (by simp), RV.out.but ((BB.out.1.trans BB.out.2).trans2 h.but (by intro k hk; simp at hk; omega)), h.but.size⟩)
      l R Rx hR (fun pre x W h hr => hY pre x W h hr) W' hIW hRW)
  case done =>
    rintro xs W' hxs hI hK
    have c0 := hI.res.cell 0 rfl
    have f0 := hI.res.frozen 0
    have l0 := hI.res.lt
    have HI := Shut.mk hI
    have HK := Shut.mk hK
    have HX := Shut.mk hxs
    clear hI hxs hK
    gi_wp2_with fail
    have hK2 : (W'.setCell ⟨W.heap.size + 1 + 1, 0, none⟩ (.int .i64 (-1))).heap[w1.heap.size]? = some (.deferred (some [])) := (KeepsOthers.setCell W' ⟨W.heap.size + 1 + 1, 0, none⟩ (.int .i64 (-1))).same _ _ HK.out rfl
    refine ⟨by simp, .inl ⟨_, _, rfl, run_takeDeferred hK2, ?_⟩⟩
    have HB2 := (HI.out.but.setCell (p := ⟨W.heap.size + 1 + 1, 0, none⟩) (Or.inl (by simp)) (.int .i64 (-1))).put (.deferred none) (Nat.le_refl _) hK2 rfl
    have HR2 := (HI.out.res.set 0 (.int .i64 (-1))).put (.deferred none) hK2 rfl
    have z := HR2.cell 0 rfl
    have e := HI.out.idx
    rw [HX.out, Nat.sub_self, firstIdx] at e
    refine ⟨.int .i64 (-1), by simp [results, Tryz.results11, go_sem, z], by rw [e], HB2.whole (BB.out.1.trans BB.out.2) (by omega)⟩
  case stop =>
    rintro cd pre W' ⟨rfl, hb, hres⟩ hK
    have c0 := hres.cell 0 rfl
    have f0 := hres.frozen 0
    have l0 := hres.lt
    gi_wp2_with fail
    refine ⟨by simp, .inl ⟨_, _, rfl, run_takeDeferred hK, ?_⟩⟩
    have HB2 := hb.put (.deferred none) (Nat.le_refl _) hK rfl
    have HR2 := hres.put (.deferred none) hK rfl
    have z := HR2.cell 0 rfl
    refine ⟨.int .i64 (firstIdx (badR first f) n 0), by simp [results, Tryz.results11, go_sem, z], rfl, HB2.whole (BB.out.1.trans BB.out.2) (by omega)⟩
end Go.Proofs.YtcaimmhhklcpoaaGreatDoor
