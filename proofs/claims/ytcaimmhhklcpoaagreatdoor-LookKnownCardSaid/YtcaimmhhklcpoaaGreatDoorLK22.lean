/- SO, SP: merged by merge.py. -/
import Derived.Test.YtcaimmhhklcpoaaGreatDoorLK12
import Derived.Test.YtcaimmhhklcpoaaGreatDoorLK07
import Derived.Test.YtcaimmhhklcpoaaGreatDoorLK18
import Derived.Test.YtcaimmhhklcpoaaGreatDoorLK17
import Derived.BigFrame
namespace Go.Proofs.YtcaimmhhklcpoaaGreatDoor
set_option linter.unusedVariables false
set_option linter.unusedSimpArgs false
set_option maxRecDepth 100000
open Go Go.RowKit
theorem ten_set {W : World} {g : Nat} {a0 a1 a2 a3 a4 a5 a6 a7 a8 a9 v0 v1 v2 v3 v4 v5 v6 v7 v8 v9 : Value} {t : TypeId} (h : Blk W g #[a0, a1, a2, a3, a4, a5, a6, a7, a8, a9] t) :
    Blk ((((((((((W.setCell ⟨g, 0, none⟩ (v0)).setCell ⟨g, 1, none⟩ (v1)).setCell ⟨g, 2, none⟩ (v2)).setCell ⟨g, 3, none⟩ (v3)).setCell ⟨g, 4, none⟩ (v4)).setCell ⟨g, 5, none⟩ (v5)).setCell ⟨g, 6, none⟩ (v6)).setCell ⟨g, 7, none⟩ (v7)).setCell ⟨g, 8, none⟩ (v8)).setCell ⟨g, 9, none⟩ (v9)) g #[v0, v1, v2, v3, v4, v5, v6, v7, v8, v9] t := by
  have := ((((((((((h.set 0 v0).set 1 v1).set 2 v2).set 3 v3).set 4 v4).set 5 v5).set 6 v6).set 7 v7).set 8 v8).set 9 v9)
  simpa only [List.setIfInBounds_toArray, List.set_cons_zero, List.set_cons_succ] using this
theorem ten_but {a W : World} {g : Nat} {v0 v1 v2 v3 v4 v5 v6 v7 v8 v9 : Value} (h : But [] a W) (hg : a.heap.size ≤ g) : But [] a ((((((((((W.setCell ⟨g, 0, none⟩ (v0)).setCell ⟨g, 1, none⟩ (v1)).setCell ⟨g, 2, none⟩ (v2)).setCell ⟨g, 3, none⟩ (v3)).setCell ⟨g, 4, none⟩ (v4)).setCell ⟨g, 5, none⟩ (v5)).setCell ⟨g, 6, none⟩ (v6)).setCell ⟨g, 7, none⟩ (v7)).setCell ⟨g, 8, none⟩ (v8)).setCell ⟨g, 9, none⟩ (v9)) :=
  ((((((((((h.setCell (p := ⟨g, 0, none⟩) (Or.inr hg) v0).setCell (p := ⟨g, 1, none⟩) (Or.inr hg) v1).setCell (p := ⟨g, 2, none⟩) (Or.inr hg) v2).setCell (p := ⟨g, 3, none⟩) (Or.inr hg) v3).setCell (p := ⟨g, 4, none⟩) (Or.inr hg) v4).setCell (p := ⟨g, 5, none⟩) (Or.inr hg) v5).setCell (p := ⟨g, 6, none⟩) (Or.inr hg) v6).setCell (p := ⟨g, 7, none⟩) (Or.inr hg) v7).setCell (p := ⟨g, 8, none⟩) (Or.inr hg) v8).setCell (p := ⟨g, 9, none⟩) (Or.inr hg) v9)
set_option maxHeartbeats 1000000 in
theorem bodies_nil (S : List UInt8) (W : World) : Calls Tryz.prog 36 #[.slice none 0 0, .string (mkS S)] W fun e w' => e = .returned (.tuple #[.slice none 0 0, .bool false]) ∧ But [] W w' := by
  have hmf := run_make_func
  have B0 := (But.refl [] W).alloc (.cells #[.string (mkS S)] 9)
  go_enter Tryz.func36, Tryz.ntmps36
  go_wp2_with fail
  go_loopw [13] (fun k wr => k = .int .i64 0 ∧ But [] W wr) (fun _ _ => 0)
  case atStart => exact ⟨rfl, B0⟩
  case round =>
    obtain ⟨rfl, hb⟩ := hrel
    have HB := Shut.mk hb
    clear hb
    go_wp2_with fail
    refine bodyPost_ret (results_tmp2 rfl _ _ _) rfl ?_
    exact ⟨rfl, HB.out⟩
set_option maxHeartbeats 1000000 in
theorem index_nil (fv : Value) (W : World) : Calls Tryz.prog 75 #[.slice none 0 0, fv] W fun e w' => e = .returned (.int .i64 (-1)) ∧ But [] W w' := by
  go_enter Tryz.func75, Tryz.ntmps75
  go_wp2_with fail
  go_loopw [8] (fun k wr => k = .int .i64 0 ∧ But [] W wr) (fun _ _ => 0)
  case atStart => exact ⟨rfl, But.refl _ _⟩
  case round =>
    obtain ⟨rfl, hb⟩ := hrel
    have HB := Shut.mk hb
    clear hb
    go_wp2_with fail
    go_ret
    exact ⟨rfl, HB.out⟩
set_option maxHeartbeats 2000000 in
theorem interval_nil (S : List UInt8) (W : World) : Calls Tryz.prog 35 #[.slice none 0 0, .string (mkS S)] W fun e w' => e = .returned (.tuple #[.agg #[.string ⟨#[]⟩, .string ⟨#[]⟩, .int .u64 0, .int .u64 0, .int .u64 0, .int .u64 0, .string ⟨#[]⟩, .slice none 0 0, .slice none 0 0, .slice none 0 0], .bool false]) ∧ But [] W w' := by
  have hmf := run_make_func
  obtain ⟨w0, hw0⟩ : ∃ w0, w0 = (W.alloc (.cells #[.string (mkS S)] 9)).alloc (.cells #[.string ⟨#[]⟩, .string ⟨#[]⟩, .int .u64 0, .int .u64 0, .int .u64 0, .int .u64 0, .string ⟨#[]⟩, .slice none 0 0, .slice none 0 0, .slice none 0 0] 88) := ⟨_, rfl⟩
  have B0 : Shut (But [] W w0) := ⟨by rw [hw0]; exact ((But.refl [] W).alloc _).alloc _⟩
  have X0 : Shut (Blk w0 (W.heap.size + 1) #[.string ⟨#[]⟩, .string ⟨#[]⟩, .int .u64 0, .int .u64 0, .int .u64 0, .int .u64 0, .string ⟨#[]⟩, .slice none 0 0, .slice none 0 0, .slice none 0 0] 88) := ⟨by
    rw [hw0]
    have := Blk.new (W.alloc (.cells #[.string (mkS S)] 9)) #[.string ⟨#[]⟩, .string ⟨#[]⟩, .int .u64 0, .int .u64 0, .int .u64 0, .int .u64 0, .string ⟨#[]⟩, .slice none 0 0, .slice none 0 0, .slice none 0 0] 88
    rwa [World.size_alloc] at this⟩
  have HW0 := Shut.mk hw0
  clear hw0
  go_enter Tryz.func35, Tryz.ntmps35
  go_wp2_with fail
  rw [← HW0.out]
  refine (index_nil _ w0).mono ?_
  rintro e w1 ⟨rfl, hb1⟩
  have X1 := X0.out.but hb1 (by simp)
  have x0 : w1.cell? ⟨W.heap.size + 1, 0, none⟩ = some (.string ⟨#[]⟩) := X1.cell 0 rfl
  have f0 := X1.frozen 0
  have x1 : w1.cell? ⟨W.heap.size + 1, 1, none⟩ = some (.string ⟨#[]⟩) := X1.cell 1 rfl
  have f1 := X1.frozen 1
  have x2 : w1.cell? ⟨W.heap.size + 1, 2, none⟩ = some (.int .u64 0) := X1.cell 2 rfl
  have f2 := X1.frozen 2
  have x3 : w1.cell? ⟨W.heap.size + 1, 3, none⟩ = some (.int .u64 0) := X1.cell 3 rfl
  have f3 := X1.frozen 3
  have x4 : w1.cell? ⟨W.heap.size + 1, 4, none⟩ = some (.int .u64 0) := X1.cell 4 rfl
  have f4 := X1.frozen 4
  have x5 : w1.cell? ⟨W.heap.size + 1, 5, none⟩ = some (.int .u64 0) := X1.cell 5 rfl
  have f5 := X1.frozen 5
  have x6 : w1.cell? ⟨W.heap.size + 1, 6, none⟩ = some (.string ⟨#[]⟩) := X1.cell 6 rfl
  have f6 := X1.frozen 6
  have x7 : w1.cell? ⟨W.heap.size + 1, 7, none⟩ = some (.slice none 0 0) := X1.cell 7 rfl
  have f7 := X1.frozen 7
  have x8 : w1.cell? ⟨W.heap.size + 1, 8, none⟩ = some (.slice none 0 0) := X1.cell 8 rfl
  have f8 := X1.frozen 8
  have x9 : w1.cell? ⟨W.heap.size + 1, 9, none⟩ = some (.slice none 0 0) := X1.cell 9 rfl
  have f9 := X1.frozen 9
  have xl := X1.lt
  have HB1 := Shut.mk hb1
  have X1S := Shut.mk X1
  clear X1 hb1
  go_wp2_with fail
  have X2 := ten_set (W := w1) (g := W.heap.size + 1) (v0 := .string ⟨#[]⟩) (v1 := .string ⟨#[]⟩) (v2 := .int .u64 0) (v3 := .int .u64 0) (v4 := .int .u64 0) (v5 := .int .u64 0) (v6 := .string ⟨#[]⟩) (v7 := .slice none 0 0) (v8 := .slice none 0 0) (v9 := .slice none 0 0) X1S.out
  have B2 := ten_but (g := W.heap.size + 1) (v0 := .string ⟨#[]⟩) (v1 := .string ⟨#[]⟩) (v2 := .int .u64 0) (v3 := .int .u64 0) (v4 := .int .u64 0) (v5 := .int .u64 0) (v6 := .string ⟨#[]⟩) (v7 := .slice none 0 0) (v8 := .slice none 0 0) (v9 := .slice none 0 0) (B0.out.trans HB1.out) (by omega)
  generalize ((((((((((w1.setCell ⟨W.heap.size + 1, 0, none⟩ (.string ⟨#[]⟩)).setCell ⟨W.heap.size + 1, 1, none⟩ (.string ⟨#[]⟩)).setCell ⟨W.heap.size + 1, 2, none⟩ (.int .u64 0)).setCell ⟨W.heap.size + 1, 3, none⟩ (.int .u64 0)).setCell ⟨W.heap.size + 1, 4, none⟩ (.int .u64 0)).setCell ⟨W.heap.size + 1, 5, none⟩ (.int .u64 0)).setCell ⟨W.heap.size + 1, 6, none⟩ (.string ⟨#[]⟩)).setCell ⟨W.heap.size + 1, 7, none⟩ (.slice none 0 0)).setCell ⟨W.heap.size + 1, 8, none⟩ (.slice none 0 0)).setCell ⟨W.heap.size + 1, 9, none⟩ (.slice none 0 0)) = w2 at *
  have y0 : w2.cell? ⟨W.heap.size + 1, 0, none⟩ = some (.string ⟨#[]⟩) := X2.cell 0 rfl
  have y1 : w2.cell? ⟨W.heap.size + 1, 1, none⟩ = some (.string ⟨#[]⟩) := X2.cell 1 rfl
  have y2 : w2.cell? ⟨W.heap.size + 1, 2, none⟩ = some (.int .u64 0) := X2.cell 2 rfl
  have y3 : w2.cell? ⟨W.heap.size + 1, 3, none⟩ = some (.int .u64 0) := X2.cell 3 rfl
  have y4 : w2.cell? ⟨W.heap.size + 1, 4, none⟩ = some (.int .u64 0) := X2.cell 4 rfl
  have y5 : w2.cell? ⟨W.heap.size + 1, 5, none⟩ = some (.int .u64 0) := X2.cell 5 rfl
  have y6 : w2.cell? ⟨W.heap.size + 1, 6, none⟩ = some (.string ⟨#[]⟩) := X2.cell 6 rfl
  have y7 : w2.cell? ⟨W.heap.size + 1, 7, none⟩ = some (.slice none 0 0) := X2.cell 7 rfl
  have y8 : w2.cell? ⟨W.heap.size + 1, 8, none⟩ = some (.slice none 0 0) := X2.cell 8 rfl
  have y9 : w2.cell? ⟨W.heap.size + 1, 9, none⟩ = some (.slice none 0 0) := X2.cell 9 rfl
  refine bodyPost_ret (v := .tuple #[.agg #[.string ⟨#[]⟩, .string ⟨#[]⟩, .int .u64 0, .int .u64 0, .int .u64 0, .int .u64 0, .string ⟨#[]⟩, .slice none 0 0, .slice none 0 0, .slice none 0 0], .bool false]) ?_ rfl ?_
  · simp [results, Tryz.results35, go_sem, y0, y1, y2, y3, y4, y5, y6, y7, y8, y9]
  exact ⟨rfl, B2⟩
def badT (r : LR) : Bool := (r.cl == 0) && ((r.kind == 0) || (r.kind == 1) || (r.kind == 2))
set_option maxHeartbeats 4000000 in
theorem truth1_any (r : LR) (i : Nat) (b : Nat) (W : World) (hc : Blk W b #[.slice none 0 0] 32) :
    Calls Tryz.prog 34 #[.int .i64 (i : Nat), rowAgg r, .pointer (some ⟨b, 0, none⟩)] W fun e w' => e = .returned (.bool (!badT r)) ∧ But [] W w' := by
  simp only [rowAgg]
  have B0 := Shut.mk ((But.refl [] W).alloc (.cells #[.int .i64 r.kind, .string (mkS r.cert), .string (mkS r.msg), .string (mkS r.hdr), .slice r.pa r.pn r.pc, .string (mkS r.body), .int .u64 (r.pos : Nat), .slice r.qa r.qn r.qc, .int .u64 (r.count : Nat), .int .i64 r.cl, .int .i64 r.mo, .string (mkS r.tr.h), .string (mkS r.tr.p), .int .u64 (r.tr.c : Nat), .int .u64 (r.tr.w : Nat), .int .u64 (r.tr.f : Nat), .int .u64 (r.tr.l : Nat), .string (mkS r.dg)] 31))
  have C0 := Shut.mk (hc.alloc (.cells #[.int .i64 r.kind, .string (mkS r.cert), .string (mkS r.msg), .string (mkS r.hdr), .slice r.pa r.pn r.pc, .string (mkS r.body), .int .u64 (r.pos : Nat), .slice r.qa r.qn r.qc, .int .u64 (r.count : Nat), .int .i64 r.cl, .int .i64 r.mo, .string (mkS r.tr.h), .string (mkS r.tr.p), .int .u64 (r.tr.c : Nat), .int .u64 (r.tr.w : Nat), .int .u64 (r.tr.f : Nat), .int .u64 (r.tr.l : Nat), .string (mkS r.dg)] 31))
  have X0 := Shut.mk (Blk.new W #[.int .i64 r.kind, .string (mkS r.cert), .string (mkS r.msg), .string (mkS r.hdr), .slice r.pa r.pn r.pc, .string (mkS r.body), .int .u64 (r.pos : Nat), .slice r.qa r.qn r.qc, .int .u64 (r.count : Nat), .int .i64 r.cl, .int .i64 r.mo, .string (mkS r.tr.h), .string (mkS r.tr.p), .int .u64 (r.tr.c : Nat), .int .u64 (r.tr.w : Nat), .int .u64 (r.tr.f : Nat), .int .u64 (r.tr.l : Nat), .string (mkS r.dg)] 31)
  have BT : Shut (badT r = ((r.cl == 0) && ((r.kind == 0) || (r.kind == 1) || (r.kind == 2)))) := ⟨rfl⟩
  have hcl := hc.lt
  clear hc
  go_enter Tryz.func34, Tryz.ntmps34
  generalize hw0 : W.alloc (.cells #[.int .i64 r.kind, .string (mkS r.cert), .string (mkS r.msg), .string (mkS r.hdr), .slice r.pa r.pn r.pc, .string (mkS r.body), .int .u64 (r.pos : Nat), .slice r.qa r.qn r.qc, .int .u64 (r.count : Nat), .int .i64 r.cl, .int .i64 r.mo, .string (mkS r.tr.h), .string (mkS r.tr.p), .int .u64 (r.tr.c : Nat), .int .u64 (r.tr.w : Nat), .int .u64 (r.tr.f : Nat), .int .u64 (r.tr.l : Nat), .string (mkS r.dg)] 31) = w0 at B0 C0 X0
  have c0 := C0.out.cell 0 rfl
  have cl := C0.out.lt
  have x0 : w0.cell? ⟨W.heap.size, 0, none⟩ = some (.int .i64 r.kind) := X0.out.cell 0 rfl
  have x2 : w0.cell? ⟨W.heap.size, 2, none⟩ = some (.string (mkS r.msg)) := X0.out.cell 2 rfl
  have x3 : w0.cell? ⟨W.heap.size, 3, none⟩ = some (.string (mkS r.hdr)) := X0.out.cell 3 rfl
  have x9 : w0.cell? ⟨W.heap.size, 9, none⟩ = some (.int .i64 r.cl) := X0.out.cell 9 rfl
  have xl := X0.out.lt
  rcases hz : (r.cl != 0) with _ | _
  · have hz' : (r.cl == 0) = true := by simpa using hz
    rcases h0 : (r.kind == 0) with _ | _
    · rcases h1 : (r.kind == 1) with _ | _
      · rcases h2 : (r.kind == 2) with _ | _
        · subst hw0
          go_wp2_with fail
          go_ret
          exact ⟨by rw [BT.out, hz', h0, h1, h2]; rfl, B0.out⟩
        · subst hw0
          go_wp2_with fail
          refine (bodies_nil r.hdr _).mono ?_
          rintro e w2 ⟨rfl, hb2⟩
          have y0 : w2.cell? ⟨W.heap.size, 0, none⟩ = some (.int .i64 r.kind) := (X0.out.but hb2 (by simp)).cell 0 rfl
          have yl := (X0.out.but hb2 (by simp)).lt
          have HB2 := Shut.mk hb2
          clear hb2
          go_wp2_with fail
          go_ret
          exact ⟨by rw [BT.out, hz', h0, h1, h2]; rfl, B0.out.trans HB2.out⟩
      · subst hw0
        go_wp2_with fail
        refine (bodies_nil r.hdr _).mono ?_
        rintro e w2 ⟨rfl, hb2⟩
        have y0 : w2.cell? ⟨W.heap.size, 0, none⟩ = some (.int .i64 r.kind) := (X0.out.but hb2 (by simp)).cell 0 rfl
        have yl := (X0.out.but hb2 (by simp)).lt
        have HB2 := Shut.mk hb2
        clear hb2
        go_wp2_with fail
        go_ret
        exact ⟨by rw [BT.out, hz', h0, h1]; rfl, B0.out.trans HB2.out⟩
    · subst hw0
      go_wp2_with fail
      refine (interval_nil r.msg _).mono ?_
      rintro e w2 ⟨rfl, hb2⟩
      have HB2 := Shut.mk (hb2.alloc (.cells #[.string ⟨#[]⟩, .string ⟨#[]⟩, .int .u64 0, .int .u64 0, .int .u64 0, .int .u64 0, .string ⟨#[]⟩, .slice none 0 0, .slice none 0 0, .slice none 0 0] 88))
      clear hb2
      go_wp2_with fail
      go_ret
      exact ⟨by rw [BT.out, hz', h0]; rfl, B0.out.trans HB2.out⟩
  · have hz' : (r.cl == 0) = false := by simpa using hz
    subst hw0
    go_wp2_with fail
    go_ret
    exact ⟨by rw [BT.out, hz']; rfl, B0.out⟩
set_option maxHeartbeats 1000000 in
theorem truth_any (A : Option Addr) (n c : Nat) (f : Nat → LR) (W : World) (hR : RowsV W A n f) :
    Calls Tryz.prog 13 #[.slice A n c, .slice none 0 0] W fun e w' => e = .returned (.int .i64 (firstIdx (fun i => badT (f i)) n 0)) ∧ But [] W w' := by
  have hmf := run_make_func
  have H0 := Shut.mk (Blk.new W #[.slice none 0 0] 32)
  have B0 := Shut.mk ((But.refl [] W).alloc (.cells #[.slice none 0 0] 32))
  have HR := Shut.mk hR
  have FA := Shut.mk first_any
  clear hR
  go_enter Tryz.func13, Tryz.ntmps13
  go_wp2_with fail
  generalize W.alloc (.cells #[.slice none 0 0] 32) = w0 at *
  refine (FA.out A n c f (fun i => !badT (f i)) 34 (.pointer (some ⟨W.heap.size, 0, none⟩)) w0 (HR.out.but B0.out) (fun _ _ => by rfl) (fun i W' hi hb => truth1_any (f i) i _ W' (H0.out.but hb (by simp)))).mono ?_
  rintro e w1 ⟨rfl, hb⟩
  simp only [Bool.not_not]
  go_wp2_with fail
  go_ret
  exact ⟨rfl, B0.out.trans hb⟩
set_option maxHeartbeats 4000000 in
theorem reveals1_any (B : Nat) (r : LR) (i : Nat) (b : Nat) (W : World) (hc : Blk W b #[.slice none 0 0] 32) (hS : r.cert.length ≤ 500) (hT : Tabs B W) (hB : B ≤ W.heap.size) (hE : ErrT W) :
    Calls Tryz.prog 37 #[.int .i64 (i : Nat), rowAgg r, .pointer (some ⟨b, 0, none⟩)] W fun e w' => e = .returned (.bool (!tk r)) ∧ But [] W w' := by
  have TK := Shut.mk (takes_any r)
  have RC := Shut.mk (readCert_any B r.cert)
  simp only [rowAgg] at TK ⊢
  have hmf := run_make_func
  have B0 := Shut.mk ((But.refl [] W).alloc (.cells #[.int .i64 r.kind, .string (mkS r.cert), .string (mkS r.msg), .string (mkS r.hdr), .slice r.pa r.pn r.pc, .string (mkS r.body), .int .u64 (r.pos : Nat), .slice r.qa r.qn r.qc, .int .u64 (r.count : Nat), .int .i64 r.cl, .int .i64 r.mo, .string (mkS r.tr.h), .string (mkS r.tr.p), .int .u64 (r.tr.c : Nat), .int .u64 (r.tr.w : Nat), .int .u64 (r.tr.f : Nat), .int .u64 (r.tr.l : Nat), .string (mkS r.dg)] 31))
  have C0 := Shut.mk (hc.alloc (.cells #[.int .i64 r.kind, .string (mkS r.cert), .string (mkS r.msg), .string (mkS r.hdr), .slice r.pa r.pn r.pc, .string (mkS r.body), .int .u64 (r.pos : Nat), .slice r.qa r.qn r.qc, .int .u64 (r.count : Nat), .int .i64 r.cl, .int .i64 r.mo, .string (mkS r.tr.h), .string (mkS r.tr.p), .int .u64 (r.tr.c : Nat), .int .u64 (r.tr.w : Nat), .int .u64 (r.tr.f : Nat), .int .u64 (r.tr.l : Nat), .string (mkS r.dg)] 31))
  have X0 := Shut.mk (Blk.new W #[.int .i64 r.kind, .string (mkS r.cert), .string (mkS r.msg), .string (mkS r.hdr), .slice r.pa r.pn r.pc, .string (mkS r.body), .int .u64 (r.pos : Nat), .slice r.qa r.qn r.qc, .int .u64 (r.count : Nat), .int .i64 r.cl, .int .i64 r.mo, .string (mkS r.tr.h), .string (mkS r.tr.p), .int .u64 (r.tr.c : Nat), .int .u64 (r.tr.w : Nat), .int .u64 (r.tr.f : Nat), .int .u64 (r.tr.l : Nat), .string (mkS r.dg)] 31)
  have HT := Shut.mk (And.intro (And.intro hS hT) (And.intro hB hE))
  have RA := Shut.mk (row_range X0.out)
  have hcl := hc.lt
  clear hc hS hT hB hE
  have hxl := X0.out.lt
  go_enter Tryz.func37, Tryz.ntmps37
  go_wp2_with (refine wpList_load_mid rfl 31 (.tmp 11) rfl (W.heap.size) (0) rfl [.int .i64 r.kind, .string (mkS r.cert), .string (mkS r.msg), .string (mkS r.hdr), .slice r.pa r.pn r.pc, .string (mkS r.body), .int .u64 (r.pos : Nat), .slice r.qa r.qn r.qc, .int .u64 (r.count : Nat), .int .i64 r.cl, .int .i64 r.mo, .string (mkS r.tr.h), .string (mkS r.tr.p), .int .u64 (r.tr.c : Nat), .int .u64 (r.tr.w : Nat), .int .u64 (r.tr.f : Nat), .int .u64 (r.tr.l : Nat), .string (mkS r.dg)] _ RA.out Tryz.underlying31 rfl (by kernel_rfl) ?_)
  generalize W.alloc (.cells #[.int .i64 r.kind, .string (mkS r.cert), .string (mkS r.msg), .string (mkS r.hdr), .slice r.pa r.pn r.pc, .string (mkS r.body), .int .u64 (r.pos : Nat), .slice r.qa r.qn r.qc, .int .u64 (r.count : Nat), .int .i64 r.cl, .int .i64 r.mo, .string (mkS r.tr.h), .string (mkS r.tr.p), .int .u64 (r.tr.c : Nat), .int .u64 (r.tr.w : Nat), .int .u64 (r.tr.f : Nat), .int .u64 (r.tr.l : Nat), .string (mkS r.dg)] 31) = w0 at *
  refine (TK.out w0).mono ?_
  rintro e w1 ⟨rfl, hb1⟩
  have HB1 := Shut.mk (B0.out.trans hb1)
  have C1 := Shut.mk (C0.out.but hb1 (by simp))
  have X1 := Shut.mk (X0.out.but hb1 (by simp))
  clear hb1 hxl
  rcases htk : tk r with _ | _
  · go_wp2_with fail
    go_ret
    exact ⟨by rw [htk]; rfl, HB1.out⟩
  · have x1 : w1.cell? ⟨W.heap.size, 1, none⟩ = some (.string (mkS r.cert)) := X1.out.cell 1 rfl
    have xl := X1.out.lt
    go_wp2_with fail
    refine (RC.out w1 (by have := HT.out.1.1; omega) (HT.out.1.2.below (HB1.out.below HT.out.2.1 (by simp))) (Nat.le_trans HT.out.2.1 HB1.out.size) (HT.out.2.2.but HB1.out (by simp))).mono ?_
    rintro e w2 ⟨v, rfl, hv, hb2⟩
    have hf : ∃ (r0 : ByteArray) (n0 : Nat) (A2 : Option Addr) (n2 c2 : Nat) (A3 : Option Addr) (n3 c3 : Nat) (A4 : Option Addr) (n4 c4 : Nat) (A5 : Option Addr) (n5 c5 : Nat) (er : Value), v = .tuple #[.agg #[.string r0, .int .u64 (n0 : Nat), .slice A2 n2 c2, .slice A3 n3 c3, .slice A4 n4 c4, .slice A5 n5 c5], er] ∧
        (er = .nilIface ∨ ∃ p, er = .iface 247 (.pointer (some ⟨p, 0, none⟩))) := by
      unfold CertAns at hv
      split at hv
      · obtain ⟨r0, n0, A2, n2, c2, A3, n3, c3, A4, n4, c4, A5, n5, c5, _, rfl⟩ := hv
        exact ⟨_, _, _, _, _, _, _, _, _, _, _, _, _, _, _, rfl, Or.inl rfl⟩
      · obtain ⟨p, rfl⟩ := hv
        exact ⟨⟨#[]⟩, 0, none, 0, 0, none, 0, 0, none, 0, 0, none, 0, 0, _, rfl, Or.inr ⟨p, rfl⟩⟩
    obtain ⟨r0, n0, A2, n2, c2, A3, n3, c3, A4, n4, c4, A5, n5, c5, er, rfl, her⟩ := hf
    have A3 := Shut.mk ((But.refl [] w2).alloc (.cells #[.string r0, .int .u64 (n0 : Nat), .slice A2 n2 c2, .slice A3 n3 c3, .slice A4 n4 c4, .slice A5 n5 c5] 47))
    have HB2 := Shut.mk ((HB1.out.trans hb2).trans A3.out)
    have X2 := X1.out.but (hb2.trans A3.out) (by simp)
    have C2 := C1.out.but (hb2.trans A3.out) (by simp)
    have y2 := X2.cell 2 (v := .string (mkS r.msg)) rfl
    have yl := X2.lt
    have c0 := C2.cell 0 (v := .slice none 0 0) rfl
    have cl := C2.lt
    clear hb2 hv X2 C2 x1 xl
    have HER := Shut.mk her
    clear her
    go_wp2_with fail
    refine (interval_nil r.msg _).mono ?_
    rintro e w4 ⟨rfl, hb4⟩
    have A5 := Shut.mk ((But.refl [] w4).alloc (.cells #[.string ⟨#[]⟩, .string ⟨#[]⟩, .int .u64 0, .int .u64 0, .int .u64 0, .int .u64 0, .string ⟨#[]⟩, .slice none 0 0, .slice none 0 0, .slice none 0 0] 88))
    have HB4 := Shut.mk ((HB2.out.trans hb4).trans A5.out)
    clear hb4
    rcases HER.out with rfl | ⟨p, rfl⟩
    · clear HER
      go_wp2_with fail
      go_ret
      exact ⟨by rw [htk]; rfl, HB4.out⟩
    · clear HER
      go_wp2_with fail
      go_ret
      exact ⟨by rw [htk]; rfl, HB4.out⟩
theorem reveals_any (B : Nat) (A : Option Addr) (n c : Nat) (f : Nat → LR) (W : World) (hR : RowsV W A n f) (hS : ShortR f) (hT : Tabs B W) (hB : B ≤ W.heap.size) (hE : ErrT W) :
    Calls Tryz.prog 14 #[.slice A n c, .slice none 0 0] W fun e w' => e = .returned (.int .i64 (firstIdx (fun i => tk (f i)) n 0)) ∧ But [] W w' := by
  have hmf := run_make_func
  have H0 := Shut.mk (Blk.new W #[.slice none 0 0] 32)
  have B0 := Shut.mk ((But.refl [] W).alloc (.cells #[.slice none 0 0] 32))
  have HR := Shut.mk hR
  have HT := Shut.mk (And.intro (And.intro hS hT) (And.intro hB hE))
  have FA := Shut.mk first_any
  clear hR hS hT hB hE
  go_enter Tryz.func14, Tryz.ntmps14
  go_wp2_with fail
  generalize W.alloc (.cells #[.slice none 0 0] 32) = w0 at *
  refine (FA.out A n c f (fun i => !tk (f i)) 37 (.pointer (some ⟨W.heap.size, 0, none⟩)) w0 (HR.out.but B0.out) (fun _ _ => by rfl) (fun i W' hi hb => reveals1_any B (f i) i _ W' (H0.out.but hb (by simp)) (HT.out.1.1 i).2
    (HT.out.1.2.below ((B0.out.trans hb).below HT.out.2.1 (by simp))) (Nat.le_trans HT.out.2.1 (B0.out.trans hb).size) (HT.out.2.2.but (B0.out.trans hb) (by simp)))).mono ?_
  rintro e w1 ⟨rfl, hb⟩
  simp only [Bool.not_not]
  go_wp2_with fail
  go_ret
  exact ⟨rfl, B0.out.trans hb⟩
end Go.Proofs.YtcaimmhhklcpoaaGreatDoor
namespace Go.Proofs.YtcaimmhhklcpoaaGreatDoor
set_option linter.unusedVariables false
set_option linter.unusedSimpArgs false
set_option maxRecDepth 100000
open Go Go.RowKit
end Go.Proofs.YtcaimmhhklcpoaaGreatDoor
