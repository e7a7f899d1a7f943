/- IE, IM, IN, IO, HZ, HZa, HZb, HZc, HZd, HZe, HZf, Range: merged by merge.py. -/
import Derived.Test.YtdaojlipkffigaaGreatDoorCB26
import Derived.Test.YtdaojlipkffigaaGreatDoorCB05
import Derived.Laws.EntriesVeiled
import Derived.Test.YtdaojlipkffigaaGreatDoorCB24
import Derived.RangeFuncNested
import Derived.RangeFuncBound
import Derived.RangeFuncCalls
import Derived.RangeFuncLeaves
namespace Go.Proofs.YtdaojlipkffigaaGreatDoor
set_option linter.unusedVariables false
set_option linter.unusedSimpArgs false
set_option maxRecDepth 100000
open Go Go.RowKit
theorem four_butc {a W : World} {xb : Nat} {v0 v1 v2 v3 : Value} (h : But [] a W) (hm : a.heap.size ≤ xb) : But [] a ((((W.setCell ⟨xb, 0, none⟩ v0).setCell ⟨xb, 1, none⟩ v1).setCell ⟨xb, 2, none⟩ v2).setCell ⟨xb, 3, none⟩ v3) :=
  (((h.setCell (p := ⟨xb, 0, none⟩) (Or.inr hm) _).setCell (p := ⟨xb, 1, none⟩) (Or.inr hm) _).setCell (p := ⟨xb, 2, none⟩) (Or.inr hm) _).setCell (p := ⟨xb, 3, none⟩) (Or.inr hm) _
theorem overHdr_ok (rs : List (Nat × Rd1)) (W : World) : Calls Tryz.prog 82 #[.agg (hdrCells rs), .nilIface] W fun e w' => e = .returned (.tuple #[.agg (hdrCells rs), .nilIface]) ∧ But [] W w' := by
  rw [hdrCells]
  generalize mkS (txtAt rs 0) = t0
  generalize mkS (txtAt rs 2) = t2
  generalize mkS (txtAt rs 3) = t3
  generalize ((numAt rs 1 : Nat) : Int) = n1
  have B0 := Shut.mk (((But.refl [] W).alloc (.cells #[.int .u64 n1, .string t0, .string t3, .string t2] 48)).alloc (.cells #[.int .u64 n1, .string t0, .string t3, .string t2] 48))
  go_enter Tryz.func82, Tryz.ntmps82
  go_wp2_with fail
  refine bodyPost_ret (v := .tuple #[.agg #[.int .u64 n1, .string t0, .string t3, .string t2], .nilIface]) (by simp [results, Tryz.results82, go_sem]) rfl ?_
  exact ⟨rfl, B0.out⟩
theorem overHdr_bad (rs : List (Nat × Rd1)) (p : Nat) (W : World) : Calls Tryz.prog 82 #[.agg (hdrCells rs), .iface 243 (.pointer (some ⟨p, 0, none⟩))] W fun e w' => e = .returned (.tuple #[.agg (hdrCells []), .iface 243 (.pointer (some ⟨p, 0, none⟩))]) ∧ But [] W w' := by
  rw [show hdrCells [] = hdr0 from rfl, hdr0]
  rw [hdrCells]
  generalize mkS (txtAt rs 0) = t0
  generalize mkS (txtAt rs 2) = t2
  generalize mkS (txtAt rs 3) = t3
  generalize ((numAt rs 1 : Nat) : Int) = n1
  have B0 := Shut.mk ((((But.refl [] W).alloc (.cells #[.int .u64 n1, .string t0, .string t3, .string t2] 48)).alloc (.cells #[.int .u64 0, .string ⟨#[]⟩, .string ⟨#[]⟩, .string ⟨#[]⟩] 48)).alloc (.cells #[.int .u64 0, .string ⟨#[]⟩, .string ⟨#[]⟩, .string ⟨#[]⟩] 48))
  go_enter Tryz.func82, Tryz.ntmps82
  go_wp2_with fail
  refine bodyPost_ret (v := .tuple #[.agg #[.int .u64 0, .string ⟨#[]⟩, .string ⟨#[]⟩, .string ⟨#[]⟩], .iface 243 (.pointer (some ⟨p, 0, none⟩))]) (by simp [results, Tryz.results82, go_sem]) rfl ?_
  exact ⟨rfl, B0.out⟩
def HdrAns (S : List UInt8) (v : Value) : Prop := match hdrOf S with
  | some rs => v = .tuple #[.agg (hdrCells rs), .nilIface]
  | none => ∃ p, v = .tuple #[.agg (hdrCells []), .iface 243 (.pointer (some ⟨p, 0, none⟩))]
theorem readHeader_any (B : Nat) (S : List UInt8) (W : World) (hS : S.length < 4000000000000000000) (hT : Tabs B W) (hB : B ≤ W.heap.size) (hE : ErrT W) :
    Calls Tryz.prog 44 #[.string (mkS S)] W fun e w' => ∃ v, e = .returned v ∧ HdrAns S v ∧ But [] W w' := by
  have B0 := Shut.mk ((But.refl [] W).alloc (.cells hdr0 48))
  have X0 := Shut.mk (Blk.new W hdr0 48)
  rw [hdr0] at B0 X0
  have HT := Shut.mk hT
  have HE := Shut.mk hE
  have HSB := Shut.mk (And.intro hS hB)
  clear hT hE hS hB
  go_enter Tryz.func44, Tryz.ntmps44
  go_wp2_with fail
  generalize W.alloc (.cells #[.int .u64 0, .string ⟨#[]⟩, .string ⟨#[]⟩, .string ⟨#[]⟩] 48) = W0 at *
  generalize hz : W.heap.size = xb at *
  refine (readHdr1 B S W0 HSB.out.1 (HT.out.below (B0.out.below (by rw [hz]; exact HSB.out.2) (by simp))) (Nat.le_trans (by rw [hz]; exact HSB.out.2) B0.out.size) (HE.out.but B0.out (by simp))).mono ?_
  rintro e w1 ⟨hb1, hE⟩
  have X1 := Shut.mk (X0.out.but hb1 (by simp))
  have B1 := Shut.mk (B0.out.trans hb1)
  have HXZ : Shut (W.heap.size ≤ xb) := ⟨by omega⟩
  clear hb1 hz
  rcases ho : hdrOf S with _ | rs
  · have hE2 := hE
    simp only [HdrEnd, ho] at hE2
    obtain ⟨p, rs, rfl⟩ := hE2
    have MA : Shut (HdrAns S (.tuple #[.agg (hdrCells []), .iface 243 (.pointer (some ⟨p, 0, none⟩))])) := ⟨by simp only [HdrAns, ho]; exact ⟨p, rfl⟩⟩
    clear hE ho
    go_wp2_with fail
    refine (overHdr_bad rs p w1).mono ?_
    rintro e w2 ⟨rfl, hb2⟩
    have X2 := Shut.mk (X1.out.but hb2 (by simp))
    have B2 := Shut.mk (B1.out.trans hb2)
    clear hb2
    revert MA
    rw [show hdrCells [] = hdr0 from rfl, hdr0]
    intro MA
    have c0 := X2.out.cell 0 rfl
    have c1 := X2.out.cell 1 rfl
    have c2 := X2.out.cell 2 rfl
    have c3 := X2.out.cell 3 rfl
    have f0 := X2.out.frozen 0
    have f1 := X2.out.frozen 1
    have f2 := X2.out.frozen 2
    have f3 := X2.out.frozen 3
    go_wp2_with fail
    refine bodyPost_ret (v := .tuple #[.agg #[.int .u64 0, .string ⟨#[]⟩, .string ⟨#[]⟩, .string ⟨#[]⟩], .iface 243 (.pointer (some ⟨p, 0, none⟩))]) ?_ rfl ?_
    · simp [results, Tryz.results44, go_sem, c0, c1, c2, c3]
    exact ⟨_, rfl, MA.out, four_butc B2.out HXZ.out⟩
  · have hE2 := hE
    simp only [HdrEnd, ho] at hE2
    subst hE2
    have MA : Shut (HdrAns S (.tuple #[.agg (hdrCells rs), .nilIface])) := ⟨by simp only [HdrAns, ho]⟩
    clear hE ho
    go_wp2_with fail
    refine (overHdr_ok rs w1).mono ?_
    rintro e w2 ⟨rfl, hb2⟩
    have X2 := Shut.mk (X1.out.but hb2 (by simp))
    have B2 := Shut.mk (B1.out.trans hb2)
    clear hb2
    revert MA
    rw [hdrCells]
    generalize mkS (txtAt rs 0) = t0
    generalize mkS (txtAt rs 2) = t2
    generalize mkS (txtAt rs 3) = t3
    generalize ((numAt rs 1 : Nat) : Int) = n1
    intro MA
    have c0 := X2.out.cell 0 rfl
    have c1 := X2.out.cell 1 rfl
    have c2 := X2.out.cell 2 rfl
    have c3 := X2.out.cell 3 rfl
    have f0 := X2.out.frozen 0
    have f1 := X2.out.frozen 1
    have f2 := X2.out.frozen 2
    have f3 := X2.out.frozen 3
    go_wp2_with fail
    refine bodyPost_ret (v := .tuple #[.agg #[.int .u64 n1, .string t0, .string t3, .string t2], .nilIface]) ?_ rfl ?_
    · simp [results, Tryz.results44, go_sem, c0, c1, c2, c3]
    exact ⟨_, rfl, MA.out, four_butc B2.out HXZ.out⟩
end Go.Proofs.YtdaojlipkffigaaGreatDoor
namespace Go.Proofs.YtdaojlipkffigaaGreatDoor
set_option linter.unusedVariables false
set_option linter.unusedSimpArgs false
set_option maxRecDepth 100000
open Go Go.RowKit
set_option maxHeartbeats 2000000 in
theorem header_bad (g : Nat) (S : List UInt8) (p : Value) (B : Nat) (W : World) (hT : Tabs B W) (hB : B ≤ W.heap.size) (hE : ErrT W) (hS : S.length < 1000000) (ho : hdrOf S = none) :
    Calls Tryz.prog 18 #[.pointer (some ⟨g, 0, none⟩), .string (mkS S), p] W fun r w' => r = .returned (.tuple #[.agg hdr0, .int .i64 5]) ∧ But [] W w' := by
  have B0 := Shut.mk ((But.refl [] W).alloc (.cells hdr0 48))
  have RD := Shut.mk (readHeader_any B S (W.alloc (.cells hdr0 48)) (by omega) (hT.below (B0.out.below hB (by simp))) (Nat.le_trans hB B0.out.size) (hE.but B0.out (by simp)))
  have HO := Shut.mk ho
  have X0 := Shut.mk (Blk.new W hdr0 48)
  clear hT hB hE hS ho
  rw [hdr0] at *
  go_enter Tryz.func18, Tryz.ntmps18
  go_wp2_with fail
  refine RD.out.mono ?_
  rintro r w1 ⟨v, rfl, hv, hb⟩
  have hv2 := hv
  simp only [HdrAns, HO.out] at hv2
  obtain ⟨q, rfl⟩ := hv2
  have X1 := Shut.mk (X0.out.but hb (by simp))
  have B1 := Shut.mk (B0.out.trans hb)
  rw [show hdrCells [] = hdr0 from rfl, hdr0]
  have c0 : w1.cell? ⟨W.heap.size, 0, none⟩ = some (.int .u64 0) := X1.out.cell 0 rfl
  have c1 : w1.cell? ⟨W.heap.size, 1, none⟩ = some (.string ⟨#[]⟩) := X1.out.cell 1 rfl
  have c2 : w1.cell? ⟨W.heap.size, 2, none⟩ = some (.string ⟨#[]⟩) := X1.out.cell 2 rfl
  have c3 : w1.cell? ⟨W.heap.size, 3, none⟩ = some (.string ⟨#[]⟩) := X1.out.cell 3 rfl
  have f0 := X1.out.frozen 0
  have f1 := X1.out.frozen 1
  have f2 := X1.out.frozen 2
  have f3 := X1.out.frozen 3
  have l0 := X1.out.lt
  clear hb hv RD HO X0
  go_wp2_with fail
  have hx : Blk (((((w1.setCell ⟨W.heap.size, 0, none⟩ (.int .u64 0)).setCell ⟨W.heap.size, 1, none⟩ (.string ⟨#[]⟩)).setCell ⟨W.heap.size, 2, none⟩ (.string ⟨#[]⟩)).setCell ⟨W.heap.size, 3, none⟩ (.string ⟨#[]⟩)).alloc (.cells #[.int .u64 0, .string ⟨#[]⟩, .string ⟨#[]⟩, .string ⟨#[]⟩] 48)) W.heap.size #[.int .u64 0, .string ⟨#[]⟩, .string ⟨#[]⟩, .string ⟨#[]⟩] 48 := by
    have := (((X1.out.set 0 (.int .u64 0)).set 1 (.string ⟨#[]⟩)).set 2 (.string ⟨#[]⟩)).set 3 (.string ⟨#[]⟩)
    rw [four_set _ rfl] at this
    exact this.alloc _
  have hb5 : But [] W (((((w1.setCell ⟨W.heap.size, 0, none⟩ (.int .u64 0)).setCell ⟨W.heap.size, 1, none⟩ (.string ⟨#[]⟩)).setCell ⟨W.heap.size, 2, none⟩ (.string ⟨#[]⟩)).setCell ⟨W.heap.size, 3, none⟩ (.string ⟨#[]⟩)).alloc (.cells #[.int .u64 0, .string ⟨#[]⟩, .string ⟨#[]⟩, .string ⟨#[]⟩] 48)) := (four_butc B1.out (Nat.le_refl _)).alloc _
  generalize ((((w1.setCell ⟨W.heap.size, 0, none⟩ (.int .u64 0)).setCell ⟨W.heap.size, 1, none⟩ (.string ⟨#[]⟩)).setCell ⟨W.heap.size, 2, none⟩ (.string ⟨#[]⟩)).setCell ⟨W.heap.size, 3, none⟩ (.string ⟨#[]⟩)).alloc (.cells #[.int .u64 0, .string ⟨#[]⟩, .string ⟨#[]⟩, .string ⟨#[]⟩] 48) = w5 at *
  have x0 : w5.cell? ⟨W.heap.size, 0, none⟩ = some (.int .u64 0) := hx.cell 0 rfl
  have x1 : w5.cell? ⟨W.heap.size, 1, none⟩ = some (.string ⟨#[]⟩) := hx.cell 1 rfl
  have x2 : w5.cell? ⟨W.heap.size, 2, none⟩ = some (.string ⟨#[]⟩) := hx.cell 2 rfl
  have x3 : w5.cell? ⟨W.heap.size, 3, none⟩ = some (.string ⟨#[]⟩) := hx.cell 3 rfl
  clear hx
  exact bodyPost_ret (v := .tuple #[.agg #[.int .u64 0, .string ⟨#[]⟩, .string ⟨#[]⟩, .string ⟨#[]⟩], .int .i64 5]) (by simp [results, Tryz.results18, go_sem, x0, x1, x2, x3]) rfl ⟨rfl, hb5⟩
end Go.Proofs.YtdaojlipkffigaaGreatDoor
namespace Go.Proofs.YtdaojlipkffigaaGreatDoor
set_option linter.unusedVariables false
set_option linter.unusedSimpArgs false
set_option maxRecDepth 100000
open Go Go.RowKit
theorem do_high (g : Nat) (v1 v2 v3 v4 v5 v6 v7 v8 : Value) (W : World) : Calls Tryz.prog 19 #[.pointer (some ⟨g, 0, none⟩), .agg #[.int .i64 3, v1, v2, v3, v4, v5, v6, v7, v8]] W fun r w' => r = .returned (.int .i64 2) ∧ But [] W w' := by
  have B0 := Shut.mk ((But.refl [] W).alloc (.cells #[.int .i64 3, v1, v2, v3, v4, v5, v6, v7, v8] 54))
  have X0 := Blk.new W #[.int .i64 3, v1, v2, v3, v4, v5, v6, v7, v8] 54
  go_enter Tryz.func19, Tryz.ntmps19
  go_upto_region 3 with fail
  generalize W.alloc (.cells #[.int .i64 3, v1, v2, v3, v4, v5, v6, v7, v8] 54) = w0 at *
  generalize hs : W.heap.size = b at *
  have hb : Shut (W.heap.size ≤ w0.heap.size) := ⟨B0.out.size⟩
  have c0 := X0.cell 0 rfl
  have l0 := X0.lt
  clear hs X0
  go_wp2_with fail
  go_ret
  exact ⟨rfl, B0.out.alloc _⟩
end Go.Proofs.YtdaojlipkffigaaGreatDoor
namespace Go.Proofs.YtdaojlipkffigaaGreatDoor
set_option linter.unusedVariables false
set_option linter.unusedSimpArgs false
set_option maxRecDepth 100000
open Go Go.RowKit
def Ret (f : FuncId) (args : Array Value) (w : World) (v : Value) : Prop := Calls Tryz.prog f args w fun r w' => r = .returned v ∧ But [] w w'
set_option maxHeartbeats 4000000 in
theorem works_of (E : World → Prop) (sh sp tx : ByteArray) (C : World → Nat → Prop) (W : World) (hE : E W) (hEb : ∀ w w', E w → But [] w w' → E w') (hCb : ∀ w w' g, C w g → But [] w w' → C w' g)
    (MS : ∀ w, E w → Ret 13 #[] w (.agg #[.string sh, .string sp, .int .u64 1, .int .u64 1, .int .u64 1, .int .u64 2]))
    (N0 : ∀ w, E w → Ret 5 #[.agg #[.string ⟨#[]⟩, .string ⟨#[]⟩, .int .u64 0, .int .u64 0, .int .u64 0, .int .u64 0], .int .u64 1, .agg #[.int .i64 1, .int .i64 1]] w (.tuple #[.pointer none, .int .i64 2]))
    (N1 : ∀ w, E w → Ret 5 #[.agg #[.string sh, .string sp, .int .u64 1, .int .u64 1, .int .u64 1, .int .u64 2], .int .u64 0, .agg #[.int .i64 1, .int .i64 1]] w (.tuple #[.pointer none, .int .i64 2]))
    (N2 : ∀ w, E w → Ret 5 #[.agg #[.string sh, .string sp, .int .u64 1, .int .u64 1, .int .u64 1, .int .u64 2], .int .u64 1, .agg #[.int .i64 641, .int .i64 1]] w (.tuple #[.pointer none, .int .i64 2]))
    (N3 : ∀ w, E w → Ret 5 #[.agg #[.string sh, .string sp, .int .u64 1, .int .u64 1, .int .u64 1, .int .u64 2], .int .u64 1, .agg #[.int .i64 1, .int .i64 33]] w (.tuple #[.pointer none, .int .i64 2]))
    (NG : ∀ w, E w → Calls Tryz.prog 5 #[.agg #[.string sh, .string sp, .int .u64 1, .int .u64 1, .int .u64 1, .int .u64 2], .int .u64 1, .agg #[.int .i64 1, .int .i64 1]] w fun r w' => ∃ g, r = .returned (.tuple #[.pointer (some ⟨g, 0, none⟩), .int .i64 0]) ∧ But [] w w' ∧ C w' g)
    (EN : ∀ w, E w → Ret 15 #[.agg #[.string sh, .string sp, .int .u64 1, .int .u64 1, .int .u64 1, .int .u64 2]] w (.tuple #[.string tx, .int .i64 0]))
    (HD : ∀ w g, E w → C w g → Ret 18 #[.pointer (some ⟨g, 0, none⟩), .string ⟨#[]⟩, .slice none 0 0] w (.tuple #[.agg #[.int .u64 0, .string ⟨#[]⟩, .string ⟨#[]⟩, .string ⟨#[]⟩], .int .i64 5]))
    (NX : ∀ w g, E w → C w g → Ret 7 #[.pointer (some ⟨g, 0, none⟩)] w (.int .u64 3))
    (S1 : ∀ w g, E w → C w g → Ret 16 #[.pointer (some ⟨g, 0, none⟩), .string ⟨#[]⟩, .string ⟨#[]⟩] w (.int .i64 18))
    (S2 : ∀ w g, E w → C w g → Ret 16 #[.pointer (some ⟨g, 0, none⟩), .string ⟨#[]⟩, .string tx] w (.int .i64 17))
    (DO : ∀ w g, E w → C w g → Ret 19 #[.pointer (some ⟨g, 0, none⟩), .agg #[.int .i64 3, .string ⟨#[]⟩, .string ⟨#[]⟩, .string ⟨#[]⟩, .slice none 0 0, .string ⟨#[]⟩, .int .u64 0, .slice none 0 0, .int .u64 0]] w (.int .i64 2)) :
    Ret 12 #[] W (.bool true) := by
  unfold Ret at *
  have MS := Shut.mk MS
  have N0 := Shut.mk N0
  have N1 := Shut.mk N1
  have N2 := Shut.mk N2
  have N3 := Shut.mk N3
  have NG := Shut.mk NG
  have EN := Shut.mk EN
  have HD := Shut.mk HD
  have NX := Shut.mk NX
  have S1 := Shut.mk S1
  have S2 := Shut.mk S2
  have DO := Shut.mk DO
  have HE := Shut.mk hE
  have EB := Shut.mk hEb
  have CB := Shut.mk hCb
  clear hE hEb hCb
  go_enter Tryz.func12, Tryz.ntmps12
  go_wp2_with fail
  refine (MS.out _ HE.out).mono ?_
  rintro r w1 ⟨rfl, hb⟩
  have B1 := Shut.mk (hb.alloc (.cells #[.string sh, .string sp, .int .u64 1, .int .u64 1, .int .u64 1, .int .u64 2] 24))
  have X1 := Shut.mk (Blk.new w1 #[.string sh, .string sp, .int .u64 1, .int .u64 1, .int .u64 1, .int .u64 2] 24)
  clear hb MS
  go_upto_region 2 with fail
  generalize w1.alloc (.cells #[.string sh, .string sp, .int .u64 1, .int .u64 1, .int .u64 1, .int .u64 2] 24) = v1 at *
  generalize w1.heap.size = b at *
  have E1 := Shut.mk (EB.out _ _ HE.out B1.out)
  go_wp2_with fail
  refine (N0.out _ E1.out).mono ?_
  rintro r v2 ⟨rfl, hb⟩
  have B2 := Shut.mk (B1.out.trans hb)
  have E2 := Shut.mk (EB.out _ _ E1.out hb)
  have X2 := Shut.mk (X1.out.but hb (by simp))
  clear hb B1 E1 X1
  have c0 : v2.cell? ⟨b, 0, none⟩ = some (.string sh) := X2.out.cell 0 rfl
  have c1 : v2.cell? ⟨b, 1, none⟩ = some (.string sp) := X2.out.cell 1 rfl
  have c2 : v2.cell? ⟨b, 2, none⟩ = some (.int .u64 1) := X2.out.cell 2 rfl
  have c3 : v2.cell? ⟨b, 3, none⟩ = some (.int .u64 1) := X2.out.cell 3 rfl
  have c4 : v2.cell? ⟨b, 4, none⟩ = some (.int .u64 1) := X2.out.cell 4 rfl
  have c5 : v2.cell? ⟨b, 5, none⟩ = some (.int .u64 2) := X2.out.cell 5 rfl
  have lb := X2.out.lt
  go_wp2_with fail
  refine (N1.out _ E2.out).mono ?_
  rintro r v3 ⟨rfl, hb⟩
  have B3 := Shut.mk (B2.out.trans hb)
  have E3 := Shut.mk (EB.out _ _ E2.out hb)
  have X3 := Shut.mk (X2.out.but hb (by simp))
  clear hb B2 E2 X2 c0 c1 c2 c3 c4 c5 lb
  have c0 : v3.cell? ⟨b, 0, none⟩ = some (.string sh) := X3.out.cell 0 rfl
  have c1 : v3.cell? ⟨b, 1, none⟩ = some (.string sp) := X3.out.cell 1 rfl
  have c2 : v3.cell? ⟨b, 2, none⟩ = some (.int .u64 1) := X3.out.cell 2 rfl
  have c3 : v3.cell? ⟨b, 3, none⟩ = some (.int .u64 1) := X3.out.cell 3 rfl
  have c4 : v3.cell? ⟨b, 4, none⟩ = some (.int .u64 1) := X3.out.cell 4 rfl
  have c5 : v3.cell? ⟨b, 5, none⟩ = some (.int .u64 2) := X3.out.cell 5 rfl
  have lb := X3.out.lt
  go_wp2_with fail
  refine (N2.out _ E3.out).mono ?_
  rintro r v4 ⟨rfl, hb⟩
  have B4 := Shut.mk (B3.out.trans hb)
  have E4 := Shut.mk (EB.out _ _ E3.out hb)
  have X4 := Shut.mk (X3.out.but hb (by simp))
  clear hb B3 E3 X3 c0 c1 c2 c3 c4 c5 lb
  have c0 : v4.cell? ⟨b, 0, none⟩ = some (.string sh) := X4.out.cell 0 rfl
  have c1 : v4.cell? ⟨b, 1, none⟩ = some (.string sp) := X4.out.cell 1 rfl
  have c2 : v4.cell? ⟨b, 2, none⟩ = some (.int .u64 1) := X4.out.cell 2 rfl
  have c3 : v4.cell? ⟨b, 3, none⟩ = some (.int .u64 1) := X4.out.cell 3 rfl
  have c4 : v4.cell? ⟨b, 4, none⟩ = some (.int .u64 1) := X4.out.cell 4 rfl
  have c5 : v4.cell? ⟨b, 5, none⟩ = some (.int .u64 2) := X4.out.cell 5 rfl
  have lb := X4.out.lt
  go_wp2_with fail
  refine (N3.out _ E4.out).mono ?_
  rintro r v5 ⟨rfl, hb⟩
  have B5 := Shut.mk (B4.out.trans hb)
  have E5 := Shut.mk (EB.out _ _ E4.out hb)
  have X5 := Shut.mk (X4.out.but hb (by simp))
  clear hb B4 E4 X4 c0 c1 c2 c3 c4 c5 lb
  have c0 : v5.cell? ⟨b, 0, none⟩ = some (.string sh) := X5.out.cell 0 rfl
  have c1 : v5.cell? ⟨b, 1, none⟩ = some (.string sp) := X5.out.cell 1 rfl
  have c2 : v5.cell? ⟨b, 2, none⟩ = some (.int .u64 1) := X5.out.cell 2 rfl
  have c3 : v5.cell? ⟨b, 3, none⟩ = some (.int .u64 1) := X5.out.cell 3 rfl
  have c4 : v5.cell? ⟨b, 4, none⟩ = some (.int .u64 1) := X5.out.cell 4 rfl
  have c5 : v5.cell? ⟨b, 5, none⟩ = some (.int .u64 2) := X5.out.cell 5 rfl
  have lb := X5.out.lt
  go_wp2_with fail
  refine (NG.out _ E5.out).mono ?_
  rintro r v6 ⟨g, rfl, hb, hc⟩
  have B6 := Shut.mk (B5.out.trans hb)
  have E6 := Shut.mk (EB.out _ _ E5.out hb)
  have X6 := Shut.mk (X5.out.but hb (by simp))
  have C6 := Shut.mk hc
  clear hc
  clear hb B5 E5 X5 c0 c1 c2 c3 c4 c5 lb
  have c0 : v6.cell? ⟨b, 0, none⟩ = some (.string sh) := X6.out.cell 0 rfl
  have c1 : v6.cell? ⟨b, 1, none⟩ = some (.string sp) := X6.out.cell 1 rfl
  have c2 : v6.cell? ⟨b, 2, none⟩ = some (.int .u64 1) := X6.out.cell 2 rfl
  have c3 : v6.cell? ⟨b, 3, none⟩ = some (.int .u64 1) := X6.out.cell 3 rfl
  have c4 : v6.cell? ⟨b, 4, none⟩ = some (.int .u64 1) := X6.out.cell 4 rfl
  have c5 : v6.cell? ⟨b, 5, none⟩ = some (.int .u64 2) := X6.out.cell 5 rfl
  have lb := X6.out.lt
  go_wp2_with fail
  refine (EN.out _ E6.out).mono ?_
  rintro r v7 ⟨rfl, hb⟩
  have B7 := Shut.mk (B6.out.trans hb)
  have E7 := Shut.mk (EB.out _ _ E6.out hb)
  have X7 := Shut.mk (X6.out.but hb (by simp))
  have C7 := Shut.mk (CB.out _ _ _ C6.out hb)
  clear hb B6 E6 X6 c0 c1 c2 c3 c4 c5 lb C6
  go_wp2_with fail
  refine (HD.out _ g E7.out C7.out).mono ?_
  rintro r v8 ⟨rfl, hb⟩
  have hb := hb.alloc (.cells #[.int .u64 0, .string ⟨#[]⟩, .string ⟨#[]⟩, .string ⟨#[]⟩] 48)
  have B8 := Shut.mk (B7.out.trans hb)
  have E8 := Shut.mk (EB.out _ _ E7.out hb)
  have C8 := Shut.mk (CB.out _ _ _ C7.out hb)
  clear hb B7 E7 X7 C7
  go_upto_region 11 with fail
  generalize v8.alloc (.cells #[.int .u64 0, .string ⟨#[]⟩, .string ⟨#[]⟩, .string ⟨#[]⟩] 48) = v9 at *
  generalize v8.heap.size = b2 at *
  go_wp2_with fail
  refine (NX.out _ g E8.out C8.out).mono ?_
  rintro r v10 ⟨rfl, hb⟩
  have B10 := Shut.mk (B8.out.trans hb)
  have E10 := Shut.mk (EB.out _ _ E8.out hb)
  have C10 := Shut.mk (CB.out _ _ _ C8.out hb)
  clear hb B8 E8 C8
  go_wp2_with fail
  refine (S1.out _ g E10.out C10.out).mono ?_
  rintro r v11 ⟨rfl, hb⟩
  have B11 := Shut.mk (B10.out.trans hb)
  have E11 := Shut.mk (EB.out _ _ E10.out hb)
  have C11 := Shut.mk (CB.out _ _ _ C10.out hb)
  clear hb B10 E10 C10
  go_wp2_with fail
  refine (S2.out _ g E11.out C11.out).mono ?_
  rintro r v12 ⟨rfl, hb⟩
  have B12 := Shut.mk (B11.out.trans hb)
  have E12 := Shut.mk (EB.out _ _ E11.out hb)
  have C12 := Shut.mk (CB.out _ _ _ C11.out hb)
  clear hb B11 E11 C11
  go_wp2_with fail
  refine (DO.out _ g E12.out C12.out).mono ?_
  rintro r v13 ⟨rfl, hb⟩
  have B13 := Shut.mk (B12.out.trans hb)
  clear hb B12 E12 C12
  go_wp2_with fail
  go_ret
  exact ⟨rfl, B13.out⟩
end Go.Proofs.YtdaojlipkffigaaGreatDoor
namespace Go.Proofs.YtdaojlipkffigaaGreatDoor
set_option linter.unusedVariables false
set_option linter.unusedSimpArgs false
set_option maxRecDepth 100000
open Go Go.RowKit
theorem trusted_any (m : LM) (g gw s : Nat) (a : Int) (W : World) (hx : Blk W g (pC m gw s a) 60) :
    Calls Tryz.prog 9 #[.pointer (some ⟨g, 0, none⟩)] W fun e w' => e = .returned (msgAgg m) ∧ But [] W w' := by
  have B0 := Shut.mk ((But.refl [] W).alloc (.cells #[.string { data := #[] }, .string { data := #[] }, .int .u64 0, .int .u64 0, .int .u64 0, .int .u64 0] 24))
  have hy := hx.alloc (.cells #[.string { data := #[] }, .string { data := #[] }, .int .u64 0, .int .u64 0, .int .u64 0, .int .u64 0] 24)
  obtain ⟨h, p, c, w, f, l⟩ := m
  simp only [msgAgg]
  have N0 := Shut.mk (Blk.new W #[.string { data := #[] }, .string { data := #[] }, .int .u64 0, .int .u64 0, .int .u64 0, .int .u64 0] 24)
  have d0 : (W.alloc (.cells #[.string { data := #[] }, .string { data := #[] }, .int .u64 0, .int .u64 0, .int .u64 0, .int .u64 0] 24)).cell? ⟨g, 0, none⟩ = some (.string (mkS h)) := hy.cell 0 rfl
  have d1 : (W.alloc (.cells #[.string { data := #[] }, .string { data := #[] }, .int .u64 0, .int .u64 0, .int .u64 0, .int .u64 0] 24)).cell? ⟨g, 1, none⟩ = some (.string (mkS p)) := hy.cell 1 rfl
  have d2 : (W.alloc (.cells #[.string { data := #[] }, .string { data := #[] }, .int .u64 0, .int .u64 0, .int .u64 0, .int .u64 0] 24)).cell? ⟨g, 2, none⟩ = some (.int .u64 (c : Nat)) := hy.cell 2 rfl
  have d3 : (W.alloc (.cells #[.string { data := #[] }, .string { data := #[] }, .int .u64 0, .int .u64 0, .int .u64 0, .int .u64 0] 24)).cell? ⟨g, 3, none⟩ = some (.int .u64 (w : Nat)) := hy.cell 3 rfl
  have d4 : (W.alloc (.cells #[.string { data := #[] }, .string { data := #[] }, .int .u64 0, .int .u64 0, .int .u64 0, .int .u64 0] 24)).cell? ⟨g, 4, none⟩ = some (.int .u64 (f : Nat)) := hy.cell 4 rfl
  have d5 : (W.alloc (.cells #[.string { data := #[] }, .string { data := #[] }, .int .u64 0, .int .u64 0, .int .u64 0, .int .u64 0] 24)).cell? ⟨g, 5, none⟩ = some (.int .u64 (l : Nat)) := hy.cell 5 rfl
  have HX := Shut.mk hx
  clear hx hy
  go_enter Tryz.func9, Tryz.ntmps9
  go_wp2_with (refine wpList_store_row rfl 24 (.tmp 2) (.tmp 9) rfl W.heap.size _ rfl rfl 24 _ N0.out (by kernel_rfl) rfl (by kernel_rfl) ?_)
  have N1 := Shut.mk (N0.out.setRow #[.string (mkS h), .string (mkS p), .int .u64 (c : Nat), .int .u64 (w : Nat), .int .u64 (f : Nat), .int .u64 (l : Nat)])
  have B1 := Shut.mk (B0.out.setRow (g := W.heap.size) #[.string (mkS h), .string (mkS p), .int .u64 (c : Nat), .int .u64 (w : Nat), .int .u64 (f : Nat), .int .u64 (l : Nat)] (Nat.le_refl _))
  have e0 := N1.out.cell 0 rfl
  have e1 := N1.out.cell 1 rfl
  have e2 := N1.out.cell 2 rfl
  have e3 := N1.out.cell 3 rfl
  have e4 := N1.out.cell 4 rfl
  have e5 := N1.out.cell 5 rfl
  exact bodyPost_ret (v := .agg #[.string (mkS h), .string (mkS p), .int .u64 (c : Nat), .int .u64 (w : Nat), .int .u64 (f : Nat), .int .u64 (l : Nat)]) (by simp [results, Tryz.results9, go_sem, e0, e1, e2, e3, e4, e5]) rfl ⟨rfl, B1.out⟩
end Go.Proofs.YtdaojlipkffigaaGreatDoor
namespace Go.Proofs.YtdaojlipkffigaaGreatDoor
set_option linter.unusedVariables false
set_option linter.unusedSimpArgs false
set_option maxRecDepth 100000
open Go Go.RowKit
def winDig : List UInt8 := hashOf [119, 105, 110, 100, 111, 119] [beLen 0]
set_option maxHeartbeats 2000000 in
theorem rwdig_empty (gw : Nat) (b : Int) (W : World) (hx : Blk W gw (rwinZ b) 99) :
    Calls Tryz.prog 30 #[.pointer (some ⟨gw, 0, none⟩)] W fun e w' => e = .returned (.string (mkS winDig)) ∧ But [] W w' := by
  have c1 : W.cell? ⟨gw, 1, none⟩ = some (.slice none 0 0) := hx.cell 1 rfl
  have NU := Shut.mk (fun w1 => rdnum_any 0 (by decide) w1)
  have HH := Shut.mk (fun W1 g (hs : Txs W1 (some ⟨g, 0, none⟩) [beLen 0]) => rhash_any [119, 105, 110, 100, 111, 119] [beLen 0] (some ⟨g, 0, none⟩) 1 1 W1 rfl (by decide) (by decide) hs (by decide) (by decide))
  have HX := Shut.mk hx
  clear hx
  have hr : hashOf [119, 105, 110, 100, 111, 119] [beLen 0] = winDig := rfl
  rw [hr] at HH
  clear hr
  generalize winDig = dg at *
  generalize hbz : beLen 0 = bz at *
  clear hbz
  go_enter Tryz.func30, Tryz.ntmps30
  go_wp2_with fail
  refine (NU.out _).mono ?_
  rintro e w1 ⟨rfl, hb⟩
  have X1 := Shut.mk (HX.out.but hb (by simp))
  have B1 := Shut.mk hb
  have d1 : w1.cell? ⟨gw, 1, none⟩ = some (.slice none 0 0) := X1.out.cell 1 rfl
  clear hb HX NU c1
  go_wp2_with fail
  have XN := Shut.mk (Blk.new w1 #[.string (mkS bz)] 9)
  have c2 : (w1.alloc (.cells #[.string (mkS bz)] 9)).cell? ⟨gw, 1, none⟩ = some (.slice none 0 0) := (X1.out.alloc _).cell 1 rfl
  have B2 := Shut.mk (B1.out.alloc (.cells #[.string (mkS bz)] 9))
  generalize w1.alloc (.cells #[.string (mkS bz)] 9) = w2 at *
  obtain ⟨gs, hgs⟩ : ∃ g, g = w1.heap.size := ⟨_, rfl⟩
  rw [← hgs] at XN ⊢
  clear hgs X1 B1 d1
  go_loopw [3, 4] (fun pp i wr => pp = .slice (some ⟨gs, 0, none⟩) 1 1 ∧ i = .int .i64 0 ∧ wr = w2) (fun _ _ _ => 0)
  case atStart => exact ⟨rfl, rfl, rfl⟩
  case round =>
    obtain ⟨rfl, rfl, rfl⟩ := hrel
    go_wp2_with fail
    refine (HH.out _ gs (fun i hi => ⟨gs, 0, rfl, by have : i = 0 := by simp at hi; omega
                                                     subst this; exact XN.out.cell 0 rfl⟩)).mono ?_
    rintro e w3 ⟨rfl, hb⟩
    have B3 := Shut.mk (B2.out.trans hb)
    clear hb
    go_wp2_with fail
    go_ret
    exact ⟨rfl, B3.out⟩
end Go.Proofs.YtdaojlipkffigaaGreatDoor
namespace Go.Proofs.YtdaojlipkffigaaGreatDoor
set_option linter.unusedVariables false
set_option linter.unusedSimpArgs false
set_option maxRecDepth 100000
open Go Go.RowKit
def cliDig (m : LM) : List UInt8 := hashOf [99, 108, 105, 101, 110, 116] [wholeB (msgKv m), winDig]
theorem winDig_length : winDig.length = 32 := hashOf_length _ _
theorem cliDig_framed (a b : List UInt8) (h1 : a.length < 400) (h2 : b.length = 32) : (framed [99, 108, 105, 101, 110, 116] [a, b]).length < 1000000000 := by
  simp [framed, partB, beLen_length]
  omega
theorem txs_two {W : World} {g : Nat} {a b : List UInt8} {t : TypeId} (h : Blk W g #[.string (mkS a), .string (mkS b)] t) : Txs W (some ⟨g, 0, none⟩) [a, b] := fun i hi => by
  simp only [List.length_cons, List.length_nil] at hi
  refine ⟨g, 0, rfl, ?_⟩
  rcases (show i = 0 ∨ i = 1 by omega) with rfl | rfl
  · exact h.cell 0 rfl
  · exact h.cell 1 rfl
set_option maxHeartbeats 2000000 in
theorem rcdig_any (m : LM) (g gw s : Nat) (a b : Int) (hm : m.ok) (hh : m.h.length = 32) (hp : m.p.length = 32) (W : World) (hx : Blk W g (rC m gw s a) 37) (hy : Blk W gw (rwinZ b) 99) :
    Calls Tryz.prog 11 #[.pointer (some ⟨g, 0, none⟩)] W fun e w' => e = .returned (.string (mkS (cliDig m))) ∧ But [] W w' := by
  have E := Shut.mk (rencM_any m W hm)
  have hv : msgV m = .tuple #[.string (mkS (wholeB (msgKv m))), .int .i64 0] := if_pos ⟨hh, hp⟩
  rw [hv] at E
  clear hv
  have HF := cliDig_framed (wholeB (msgKv m)) winDig (kvs_len m hm hh hp) winDig_length
  have HH := Shut.mk (fun W1 g1 (hs : Txs W1 (some ⟨g1, 0, none⟩) [wholeB (msgKv m), winDig]) => rhash_any [99, 108, 105, 101, 110, 116] [wholeB (msgKv m), winDig] (some ⟨g1, 0, none⟩) 2 2 W1 rfl (by decide) (by decide) hs HF (by simp))
  have WD := Shut.mk (fun W1 (h : Blk W1 gw (rwinZ b) 99) => rwdig_empty gw b W1 h)
  have hr : hashOf [99, 108, 105, 101, 110, 116] [wholeB (msgKv m), winDig] = cliDig m := rfl
  rw [hr] at HH
  clear hr HF
  generalize cliDig m = dg at *
  generalize wholeB (msgKv m) = mb at *
  generalize winDig = wd at *
  obtain ⟨h, p, c, w, f, l⟩ := m
  simp only [msgAgg] at E
  have c0 : W.cell? ⟨g, 0, none⟩ = some (.string (mkS h)) := hx.cell 0 rfl
  have c1 : W.cell? ⟨g, 1, none⟩ = some (.string (mkS p)) := hx.cell 1 rfl
  have c2 : W.cell? ⟨g, 2, none⟩ = some (.int .u64 (c : Nat)) := hx.cell 2 rfl
  have c3 : W.cell? ⟨g, 3, none⟩ = some (.int .u64 (w : Nat)) := hx.cell 3 rfl
  have c4 : W.cell? ⟨g, 4, none⟩ = some (.int .u64 (f : Nat)) := hx.cell 4 rfl
  have c5 : W.cell? ⟨g, 5, none⟩ = some (.int .u64 (l : Nat)) := hx.cell 5 rfl
  have HX := Shut.mk hx
  have HY := Shut.mk hy
  clear hx hy hm hh hp
  go_enter Tryz.func11, Tryz.ntmps11
  go_wp2_with fail
  refine E.out.mono ?_
  rintro e w1 ⟨rfl, hb⟩
  have X1 := Shut.mk (HX.out.but hb (by simp))
  have Y1 := Shut.mk (HY.out.but hb (by simp))
  have B1 := Shut.mk hb
  have d8 : w1.cell? ⟨g, 8, none⟩ = some (.pointer (some ⟨gw, 0, none⟩)) := X1.out.cell 8 rfl
  clear hb HX HY E c0 c1 c2 c3 c4 c5
  go_wp2_with fail
  refine (WD.out _ Y1.out).mono ?_
  rintro e w2 ⟨rfl, hb⟩
  have B2 := Shut.mk (B1.out.trans hb)
  clear hb X1 Y1 B1 d8 WD
  go_wp2_with fail
  refine (HH.out _ w2.heap.size (txs_two (Blk.new w2 #[.string (mkS mb), .string (mkS wd)] 9))).mono ?_
  rintro e w3 ⟨rfl, hb⟩
  have B3 := Shut.mk ((B2.out.alloc _).trans hb)
  clear hb
  go_wp2_with fail
  go_ret
  exact ⟨rfl, B3.out⟩
end Go.Proofs.YtdaojlipkffigaaGreatDoor
namespace Go.Proofs.YtdaojlipkffigaaGreatDoor
set_option linter.unusedVariables false
set_option linter.unusedSimpArgs false
set_option maxRecDepth 100000
open Go Go.RowKit
set_option maxHeartbeats 2000000 in
theorem rnew_bad (m : LM) (s : Nat) (a b : Int) (hm : m.ok) (hs : s < 18446744073709551616) (hg : ¬ NewOk m s a b) (W : World) :
    Calls Tryz.prog 6 #[msgAgg m, .int .u64 (s : Nat), .agg #[.int .i64 a, .int .i64 b]] W fun e w' => e = .returned (.tuple #[.pointer none, .int .i64 2]) ∧ But [] W w' := by
  have E := Shut.mk (rmay_any m ((W.alloc (.cells (mCells m) 24)).alloc (.cells (nCells a b) 25)) hm)
  have hbad : mayB m = true → ¬ (1 ≤ (s : Int) ∧ (s : Int) ≤ 256 ∧ 1 ≤ a ∧ a ≤ 640 ∧ 1 ≤ b ∧ b ≤ 32) := fun hm h => hg ⟨hm, by omega, by omega, h.2.2.1, h.2.2.2.1, h.2.2.2.2.1, h.2.2.2.2.2⟩
  clear hg
  have B0 := Shut.mk (((But.refl [] W).alloc (.cells (mCells m) 24)).alloc (.cells (nCells a b) 25))
  have X0 := Shut.mk ((Blk.new W (mCells m) 24).alloc (.cells (nCells a b) 25))
  have Y0 := Shut.mk (Blk.new (W.alloc (.cells (mCells m) 24)) (nCells a b) 25)
  obtain ⟨h, p, c, w, f, l⟩ := m
  simp only [mCells, nCells, msgAgg] at *
  clear hm hs
  generalize mayB ⟨h, p, c, w, f, l⟩ = mv at *
  have HB := Shut.mk hbad
  clear hbad
  cases mv
  case false =>
    clear HB
    go_enter Tryz.func6, Tryz.ntmps6
    go_wp2_with fail
    refine E.out.mono ?_
    rintro e w1 ⟨rfl, hb⟩
    have X1 := Shut.mk (X0.out.but hb (by simp))
    have Y1 := Shut.mk (Y0.out.but hb (by simp))
    have B1 := Shut.mk (B0.out.trans hb)
    have n0 : w1.cell? ⟨W.heap.size + 1, 0, none⟩ = some (.int .i64 a) := by have := Y1.out.cell 0 rfl; simpa using this
    have n1 : w1.cell? ⟨W.heap.size + 1, 1, none⟩ = some (.int .i64 b) := by have := Y1.out.cell 1 rfl; simpa using this
    clear hb E X0 Y0 B0
    go_wp2_with fail
    refine bodyPost_ret (results_tmp2 rfl _ _ _) rfl ?_
    exact ⟨rfl, B1.out⟩
  case true =>
    have hbad := HB.out rfl
    clear HB
    go_enter Tryz.func6, Tryz.ntmps6
    go_wp2_with fail
    refine E.out.mono ?_
    rintro e w1 ⟨rfl, hb⟩
    have X1 := Shut.mk (X0.out.but hb (by simp))
    have Y1 := Shut.mk (Y0.out.but hb (by simp))
    have B1 := Shut.mk (B0.out.trans hb)
    have n0 : w1.cell? ⟨W.heap.size + 1, 0, none⟩ = some (.int .i64 a) := by have := Y1.out.cell 0 rfl; simpa using this
    have n1 : w1.cell? ⟨W.heap.size + 1, 1, none⟩ = some (.int .i64 b) := by have := Y1.out.cell 1 rfl; simpa using this
    clear hb E X0 Y0 B0
    go_wp2_with fail
    all_goals first
      | (exfalso; omega)
      | (refine bodyPost_ret (results_tmp2 rfl _ _ _) rfl ?_; exact ⟨rfl, B1.out⟩)
end Go.Proofs.YtdaojlipkffigaaGreatDoor
namespace Go.Proofs.YtdaojlipkffigaaGreatDoor
set_option linter.unusedVariables false
set_option linter.unusedSimpArgs false
set_option maxRecDepth 100000
open Go Go.RowKit
set_option maxHeartbeats 2000000 in
theorem pnew_bad (m : LM) (s : Nat) (a b : Int) (B : Nat) (W : World) (hT : PackT B W) (hB : B ≤ W.heap.size) (hm : m.ok) (hs : s < 18446744073709551616) (hg : ¬ NewOk m s a b) :
    Calls Tryz.prog 5 #[msgAgg m, .int .u64 (s : Nat), .agg #[.int .i64 a, .int .i64 b]] W fun e w' => e = .returned (.tuple #[.pointer none, .int .i64 2]) ∧ But [] W w' := by
  have B0 := Shut.mk (((But.refl [] W).alloc (.cells (mCells m) 24)).alloc (.cells (nCells a b) 25))
  have X0 := Shut.mk ((Blk.new W (mCells m) 24).alloc (.cells (nCells a b) 25))
  have Y0 := Shut.mk (Blk.new (W.alloc (.cells (mCells m) 24)) (nCells a b) 25)
  have E := Shut.mk (may_any m B ((W.alloc (.cells (mCells m) 24)).alloc (.cells (nCells a b) 25)) (hT.but B0.out) (Nat.le_trans hB B0.out.size) hm)
  clear hT hB
  have hbad : mayB m = true → ¬ (s = 0) → ¬ (256 < s) → (decide (0 < a) && decide (a ≤ 640)) = true → (decide (0 < b) && decide (b ≤ 32)) = true → False := fun h1 h2 h3 h4 h5 => by
    simp only [Bool.and_eq_true, decide_eq_true_eq] at h4 h5
    exact hg ⟨h1, by omega, by omega, by omega, by omega, by omega, by omega⟩
  clear hg
  have C1 := fun W1 => cwithin_any a 640 W1
  have C2 := fun W1 => cwithin_any b 32 W1
  have hq : ∀ q : Bool, q = decide (s = 0) → ∀ t, binOp .eql t (.int .u64 (s : Nat)) (.int .u64 0) = pure (.bool q) := fun q hq t => by
    have e : ((s : Int) == 0) = q := by rw [hq, Bool.eq_iff_iff, beq_iff_eq, decide_eq_true_iff]; omega
    rw [← e]; rfl
  obtain ⟨h, p, c, w, f, l⟩ := m
  simp only [mCells, nCells, msgAgg] at *
  clear hm hs
  generalize mayB ⟨h, p, c, w, f, l⟩ = mv at *
  generalize (decide (0 < a) && decide (a ≤ 640)) = va at *
  generalize (decide (0 < b) && decide (b ≤ 32)) = vb at *
  cases mv
  case false =>
    clear hbad C1 C2 hq
    go_enter Tryz.func5, Tryz.ntmps5
    go_wp2_with fail
    refine E.out.mono ?_
    rintro e w1 ⟨rfl, hb⟩
    have X1 := Shut.mk (X0.out.but hb (by simp))
    have Y1 := Shut.mk (Y0.out.but hb (by simp))
    have B1 := Shut.mk (B0.out.trans hb)
    have n0 : w1.cell? ⟨W.heap.size + 1, 0, none⟩ = some (.int .i64 a) := by have := Y1.out.cell 0 rfl; simpa using this
    have n1 : w1.cell? ⟨W.heap.size + 1, 1, none⟩ = some (.int .i64 b) := by have := Y1.out.cell 1 rfl; simpa using this
    clear hb E X0 Y0 B0
    go_wp2_with fail
    refine bodyPost_ret (results_tmp2 rfl _ _ _) rfl ?_
    exact ⟨rfl, B1.out⟩
  have HB := Shut.mk (hbad rfl)
  clear hbad
  by_cases h0 : s = 0
  · have hq0 := hq true (by simp [h0])
    clear hq HB C1 C2 h0
    go_enter Tryz.func5, Tryz.ntmps5
    go_wp2_with fail
    refine E.out.mono ?_
    rintro e w1 ⟨rfl, hb⟩
    have X1 := Shut.mk (X0.out.but hb (by simp))
    have Y1 := Shut.mk (Y0.out.but hb (by simp))
    have B1 := Shut.mk (B0.out.trans hb)
    have n0 : w1.cell? ⟨W.heap.size + 1, 0, none⟩ = some (.int .i64 a) := by have := Y1.out.cell 0 rfl; simpa using this
    have n1 : w1.cell? ⟨W.heap.size + 1, 1, none⟩ = some (.int .i64 b) := by have := Y1.out.cell 1 rfl; simpa using this
    clear hb E X0 Y0 B0
    go_wp2_with fail
    refine bodyPost_ret (results_tmp2 rfl _ _ _) rfl ?_
    exact ⟨rfl, B1.out⟩
  have hq0 := hq false (by simp [h0])
  by_cases h1 : 256 < s
  · have h1i : (s : Int) > 256 := by omega
    have h1j : 256 < (s : Int) := by omega
    clear hq HB C1 C2 h0 h1
    go_enter Tryz.func5, Tryz.ntmps5
    go_wp2_with fail
    refine E.out.mono ?_
    rintro e w1 ⟨rfl, hb⟩
    have X1 := Shut.mk (X0.out.but hb (by simp))
    have Y1 := Shut.mk (Y0.out.but hb (by simp))
    have B1 := Shut.mk (B0.out.trans hb)
    have n0 : w1.cell? ⟨W.heap.size + 1, 0, none⟩ = some (.int .i64 a) := by have := Y1.out.cell 0 rfl; simpa using this
    have n1 : w1.cell? ⟨W.heap.size + 1, 1, none⟩ = some (.int .i64 b) := by have := Y1.out.cell 1 rfl; simpa using this
    clear hb E X0 Y0 B0
    go_wp2_with fail
    refine bodyPost_ret (results_tmp2 rfl _ _ _) rfl ?_
    exact ⟨rfl, B1.out⟩
  have HB := Shut.mk (HB.out h0 h1)
  have h1i : ¬ ((s : Int) > 256) := by omega
  have h1j : ¬ (256 < (s : Int)) := by omega
  clear hq h0 h1
  cases va
  · clear HB C2
    go_enter Tryz.func5, Tryz.ntmps5
    go_wp2_with fail
    refine E.out.mono ?_
    rintro e w1 ⟨rfl, hb⟩
    have X1 := Shut.mk (X0.out.but hb (by simp))
    have Y1 := Shut.mk (Y0.out.but hb (by simp))
    have B1 := Shut.mk (B0.out.trans hb)
    have n0 : w1.cell? ⟨W.heap.size + 1, 0, none⟩ = some (.int .i64 a) := by have := Y1.out.cell 0 rfl; simpa using this
    have n1 : w1.cell? ⟨W.heap.size + 1, 1, none⟩ = some (.int .i64 b) := by have := Y1.out.cell 1 rfl; simpa using this
    clear hb E X0 Y0 B0
    go_wp2_with fail
    refine (C1 _).mono ?_
    rintro e w2 ⟨rfl, hw2⟩
    rw [hw2]
    clear hw2 w2
    go_wp2_with fail
    refine bodyPost_ret (results_tmp2 rfl _ _ _) rfl ?_
    exact ⟨rfl, B1.out⟩
  cases vb
  · clear HB
    go_enter Tryz.func5, Tryz.ntmps5
    go_wp2_with fail
    refine E.out.mono ?_
    rintro e w1 ⟨rfl, hb⟩
    have X1 := Shut.mk (X0.out.but hb (by simp))
    have Y1 := Shut.mk (Y0.out.but hb (by simp))
    have B1 := Shut.mk (B0.out.trans hb)
    have n0 : w1.cell? ⟨W.heap.size + 1, 0, none⟩ = some (.int .i64 a) := by have := Y1.out.cell 0 rfl; simpa using this
    have n1 : w1.cell? ⟨W.heap.size + 1, 1, none⟩ = some (.int .i64 b) := by have := Y1.out.cell 1 rfl; simpa using this
    clear hb E X0 Y0 B0
    go_wp2_with fail
    refine (C1 _).mono ?_
    rintro e w2 ⟨rfl, hw2⟩
    rw [hw2]
    clear hw2 w2
    go_wp2_with fail
    refine (C2 _).mono ?_
    rintro e w3 ⟨rfl, hw3⟩
    rw [hw3]
    clear hw3 w3
    go_wp2_with fail
    refine bodyPost_ret (results_tmp2 rfl _ _ _) rfl ?_
    exact ⟨rfl, B1.out⟩
  exact (HB.out rfl rfl).elim
end Go.Proofs.YtdaojlipkffigaaGreatDoor
namespace Go.Proofs.YtdaojlipkffigaaGreatDoor
set_option linter.unusedVariables false
set_option linter.unusedSimpArgs false
set_option maxRecDepth 100000
open Go Go.RowKit
theorem wall_any (gw : Nat) (W : World) : Calls Tryz.prog 53 #[.pointer (some ⟨gw, 0, none⟩)] W fun e w' => e = .returned (.func (.func 101) #[] #[.pointer (some ⟨W.heap.size, 0, none⟩)]) ∧ w' = W.alloc (.cells #[.pointer (some ⟨gw, 0, none⟩)] 57) := by
  go_enter Tryz.func53, Tryz.ntmps53
  go_wp2_with fail
  go_ret
  exact ⟨rfl, rfl⟩
end Go.Proofs.YtdaojlipkffigaaGreatDoor
namespace Go.Proofs.YtdaojlipkffigaaGreatDoor
set_option linter.unusedVariables false
set_option linter.unusedSimpArgs false
set_option maxRecDepth 100000
open Go Go.RowKit
theorem iter_empty (y : Value) (gb gw : Nat) (b : Int) (W : World) (hb : Blk W gb #[.pointer (some ⟨gw, 0, none⟩)] 57) (hx : Blk W gw (winZ b) 96) :
    Calls Tryz.prog 101 #[y, .pointer (some ⟨gb, 0, none⟩)] W fun e w' => e = .returned (.tuple #[]) ∧ Later W w' := by
  have CE : Shut (∀ W1, Later W W1 → W1.cell? ⟨gb, 0, none⟩ = some (.pointer (some ⟨gw, 0, none⟩))) := ⟨fun W1 hl => (hb.later hl).cell 0 rfl⟩
  have LE := Shut.mk (fun W1 (hl : Later W W1) => len_empty gw b W1 (hx.later hl))
  have L0 := Shut.mk (Later.refl W)
  clear hb hx
  go_enter Tryz.func101, Tryz.ntmps101
  go_wp2_with fail
  go_loopw [3] (fun i wr => i = .int .i64 0 ∧ Later W wr) (fun _ _ => 0)
  case atStart => exact ⟨rfl, L0.out⟩
  case round =>
    obtain ⟨rfl, hl0⟩ := hrel
    have HL := Shut.mk hl0
    have HD : Shut (∀ W1, Later (World.drew wr) W1 → Later W W1) := ⟨fun W1 h => hl0.trans ((show Later _ _ from (Below.refl _ _).drew).trans h)⟩
    clear hl0
    go_wp2_with fail
    refine wp_region_later (by kernel_rfl) [] ?_
    refine wpAnyB_take (i := 0) (v := ?_) rfl (by kernel_rfl) (by kernel_rfl) (by kernel_rfl) (fun _ _ _ h => h) (by kernel_rfl) (fix_value (by rfl) ?_) ?_
    rotate_left
    · (intro W1 hl; go_simp <;> with_reducible rfl)
    try simp only [List.getElem_toArray, List.getElem_cons_zero, List.getElem_cons_succ, Act.put, List.setIfInBounds_toArray, List.set_cons_zero, List.set_cons_succ]
    refine wpAnyB_take (i := 1) (v := ?_) rfl (by kernel_rfl) (by kernel_rfl) (by kernel_rfl) (fun _ _ _ h => h) (by kernel_rfl) (fix_value (by rfl) ?_) ?_
    rotate_left
    · (intro W1 hl; have c0 := CE.out W1 (HD.out W1 hl); go_simp <;> with_reducible rfl)
    try simp only [List.getElem_toArray, List.getElem_cons_zero, List.getElem_cons_succ, Act.put, List.setIfInBounds_toArray, List.set_cons_zero, List.set_cons_succ]
    refine wpAnyB_take (i := 2) (v := _) rfl (by kernel_rfl) (by kernel_rfl) (by kernel_rfl) (fun _ _ _ h => h) (by kernel_rfl) (fix_enter (by rfl) (fun W1 hl => (LE.out W1 (HD.out W1 hl)).mono (by rintro e w' ⟨rfl, rfl⟩; exact ⟨rfl, Later.refl _⟩)) ?_) ?_
    · (intro W1 hl; go_simp <;> with_reducible rfl)
    try simp only [List.getElem_toArray, List.getElem_cons_zero, List.getElem_cons_succ, Act.put, List.setIfInBounds_toArray, List.set_cons_zero, List.set_cons_succ]
    refine wpAnyB_take (i := 3) (v := ?_) rfl (by kernel_rfl) (by kernel_rfl) (by kernel_rfl) (fun _ _ _ h => h) (by kernel_rfl) (fix_value (by rfl) ?_) ?_
    rotate_left
    · (intro W1 hl; go_simp <;> with_reducible rfl)
    try simp only [List.getElem_toArray, List.getElem_cons_zero, List.getElem_cons_succ, Act.put, List.setIfInBounds_toArray, List.set_cons_zero, List.set_cons_succ]
    refine wpAnyB_take (i := 4) (v := ?_) rfl (by kernel_rfl) (by kernel_rfl) (by kernel_rfl) (fun _ _ _ h => h) (by kernel_rfl) (fix_value (by rfl) ?_) ?_
    rotate_left
    · (intro W1 hl; go_simp <;> with_reducible rfl)
    try simp only [List.getElem_toArray, List.getElem_cons_zero, List.getElem_cons_succ, Act.put, List.setIfInBounds_toArray, List.set_cons_zero, List.set_cons_succ]
    refine wpAnyB_take (i := 5) (v := undef) rfl (by kernel_rfl) (by kernel_rfl) (by kernel_rfl) (fun _ _ _ h => h) (by kernel_rfl) (Or.inr ⟨by rfl, rfl⟩) ?_
    try simp only [List.getElem_toArray, List.getElem_cons_zero, List.getElem_cons_succ, Act.put, List.setIfInBounds_toArray, List.set_cons_zero, List.set_cons_succ]
    refine wpAnyB_take (i := 6) (v := undef) rfl (by kernel_rfl) (by kernel_rfl) (by kernel_rfl) (fun _ _ _ h => h) (by kernel_rfl) (Or.inr ⟨by rfl, rfl⟩) ?_
    try simp only [List.getElem_toArray, List.getElem_cons_zero, List.getElem_cons_succ, Act.put, List.setIfInBounds_toArray, List.set_cons_zero, List.set_cons_succ]
    refine wpAnyB_take (i := 7) (v := undef) rfl (by kernel_rfl) (by kernel_rfl) (by kernel_rfl) (fun _ _ _ h => h) (by kernel_rfl) (Or.inr ⟨by rfl, rfl⟩) ?_
    try simp only [List.getElem_toArray, List.getElem_cons_zero, List.getElem_cons_succ, Act.put, List.setIfInBounds_toArray, List.set_cons_zero, List.set_cons_succ]
    refine wpAnyB_take (i := 8) (v := undef) rfl (by kernel_rfl) (by kernel_rfl) (by kernel_rfl) (fun _ _ _ h => h) (by kernel_rfl) (Or.inr ⟨by rfl, rfl⟩) ?_
    try simp only [List.getElem_toArray, List.getElem_cons_zero, List.getElem_cons_succ, Act.put, List.setIfInBounds_toArray, List.set_cons_zero, List.set_cons_succ]
    refine wpAnyB_take (i := 9) (v := undef) rfl (by kernel_rfl) (by kernel_rfl) (by kernel_rfl) (fun _ _ _ h => h) (by kernel_rfl) (Or.inr ⟨by rfl, rfl⟩) ?_
    try simp only [List.getElem_toArray, List.getElem_cons_zero, List.getElem_cons_succ, Act.put, List.setIfInBounds_toArray, List.set_cons_zero, List.set_cons_succ]
    refine wpAnyB_take (i := 10) (v := undef) rfl (by kernel_rfl) (by kernel_rfl) (by kernel_rfl) (fun _ _ _ h => h) (by kernel_rfl) (Or.inr ⟨by rfl, rfl⟩) ?_
    try simp only [List.getElem_toArray, List.getElem_cons_zero, List.getElem_cons_succ, Act.put, List.setIfInBounds_toArray, List.set_cons_zero, List.set_cons_succ]
    refine wpAnyB_take (i := 11) (v := undef) rfl (by kernel_rfl) (by kernel_rfl) (by kernel_rfl) (fun _ _ _ h => h) (by kernel_rfl) (Or.inr ⟨by rfl, rfl⟩) ?_
    try simp only [List.getElem_toArray, List.getElem_cons_zero, List.getElem_cons_succ, Act.put, List.setIfInBounds_toArray, List.set_cons_zero, List.set_cons_succ]
    refine wpAnyB_take (i := 12) (v := undef) rfl (by kernel_rfl) (by kernel_rfl) (by kernel_rfl) (fun _ _ _ h => h) (by kernel_rfl) (Or.inr ⟨by rfl, rfl⟩) ?_
    try simp only [List.getElem_toArray, List.getElem_cons_zero, List.getElem_cons_succ, Act.put, List.setIfInBounds_toArray, List.set_cons_zero, List.set_cons_succ]
    refine wpAnyB_take (i := 13) (v := undef) rfl (by kernel_rfl) (by kernel_rfl) (by kernel_rfl) (fun _ _ _ h => h) (by kernel_rfl) (Or.inr ⟨by rfl, rfl⟩) ?_
    try simp only [List.getElem_toArray, List.getElem_cons_zero, List.getElem_cons_succ, Act.put, List.setIfInBounds_toArray, List.set_cons_zero, List.set_cons_succ]
    refine wpAnyB_take (i := 14) (v := undef) rfl (by kernel_rfl) (by kernel_rfl) (by kernel_rfl) (fun _ _ _ h => h) (by kernel_rfl) (Or.inr ⟨by rfl, rfl⟩) ?_
    try simp only [List.getElem_toArray, List.getElem_cons_zero, List.getElem_cons_succ, Act.put, List.setIfInBounds_toArray, List.set_cons_zero, List.set_cons_succ]
    refine wpAnyB_take (i := 15) (v := ?_) rfl (by kernel_rfl) (by kernel_rfl) (by kernel_rfl) (fun _ _ _ h => h) (by kernel_rfl) (fix_value (by rfl) ?_) ?_
    rotate_left
    · (intro W1 hl; go_simp <;> with_reducible rfl)
    try simp only [List.getElem_toArray, List.getElem_cons_zero, List.getElem_cons_succ, Act.put, List.setIfInBounds_toArray, List.set_cons_zero, List.set_cons_succ]
    refine wpAnyB_done (by kernel_rfl) (fun w2 hl4 => ?_) _
    try simp only [List.getElem_toArray, List.getElem_cons_zero, List.getElem_cons_succ, Act.put, List.setIfInBounds_toArray, List.set_cons_zero, List.set_cons_succ]
    have HL2 := Shut.mk (HD.out _ hl4)
    clear hl4 HD HL CE LE
    go_wp2_with fail
    exact ⟨rfl, _, results_none rfl _ _ _, rfl, HL2.out⟩
end Go.Proofs.YtdaojlipkffigaaGreatDoor
namespace Go.Proofs.YtdaojlipkffigaaGreatDoor
set_option linter.unusedVariables false
open Go Go.RowKit
variable {F : Fence} {n : Nat} {P : Program}
def invPost {α : Type} (B : Nat) (I : List α → World → Prop) (Ix : Code → List α → World → Prop) (xs : List α) (W : World) : Exit → Act → World → Prop
  | .normal, _, W' => KeepsFrom B W W' ∧ I xs W'
  | .ret, _, W' => KeepsFrom B W W' ∧ Ix .ret xs W'
  | .exit id, _, W' => KeepsFrom B W W' ∧ Ix (.exit id) xs W'
  | .goto t, _, W' => KeepsFrom B W W' ∧ Ix (.goto t) xs W'
  | .panic _, _, _ => False
  | .outgrown, _, _ => False
def Stays {β : Type} (B : Nat) (I : β → World → Prop) : Prop :=
  ∀ s W l o o', I s W → B ≤ l → W.heap[l]? = some o → o.isCells = false → I s (W.putObj l o')
theorem wpIn_rangeFunc_inv {α : Type} {g : Operand} {ps : Array Tmp} {assign body : Code} {Q : Exit → Act → World → Prop} {a : Act} {w : World}
    (hro : F.round = none) (h1 : 1 ≤ n) {gf : Nat} {lb : Array Value} (hg : a.eval g = .func (.func gf) #[] lb) (hFg : F.fn gf) (eg : ∀ args w, (callFunc gf args).run P w = .ok (.enter gf args) w)
    {encs : α → Array Value} (hps : ∀ x, (encs x).size = ps.size) {S : List α → Prop}
    (I : List α → World → Prop) (M : List α × α → World → Prop) (Ix : Code → List α → World → Prop)
    (hI : OwnFrom w.heap.size I) (hM : Stays w.heap.size M) (hIx : ∀ c, Stays w.heap.size (Ix c)) (h0 : I [] w) (a₁ : α → Act)
    (hassign : ∀ (l : Nat) (x : α) (W : World) (K : Act → World → Prop), K (a₁ x) W →
      assign.wpIn (F.inRound l) (n - 1 - 1) P (Exit.then K (fun _ _ _ => False)) { tmps := (ps.zip (encs x)).foldl (fun t (p, v) => t.setIfInBounds p v) a.tmps, defers := [] } W)
    (hbody : ∀ (l : Nat) (pre : List α) (x : α) (W : World), M (pre, x) W → body.wpIn (F.inRound l) (n - 1 - 1) P (invPost w.heap.size I Ix (pre ++ [x]) W) (a₁ x) W)
    (hiter : ∀ (l : Nat) (R : World → Prop) (Rx : Code → World → Prop), w.heap.size ≤ l → (∀ W W', R W → KeepsFrom w.heap.size W W' → R W') →
      (∀ c W W', Rx c W → KeepsFrom w.heap.size W W' → Rx c W') → (∀ W, R W → l < W.heap.size) →
      (∀ pre x W, M (pre, x) W → R W → YieldAt F (n - 1 - 1) P l (encs x) W fun e W' =>
        (e = .returned (.bool true) ∧ I (pre ++ [x]) W' ∧ R W') ∨ (e = .returned (.bool false) ∧ ∃ c, Ix c (pre ++ [x]) W' ∧ Rx c W')) →
      ∀ W, I [] W → R W → CallsIn F (n - 1) P gf (#[.func (.yield l) #[] #[]] ++ lb) W fun e W' => (∃ v, e = .returned v) ∧
        ((∃ xs, S xs ∧ I xs W' ∧ R W') ∨ (∃ c pre, Ix c pre W' ∧ Rx c W')))
    (hdone : ∀ (xs : List α) (W : World), S xs → I xs W → W.heap[w.heap.size]? = some (.deferred (some [])) → Q .normal { a with defers := { target := .collected w.heap.size, args := #[] } :: a.defers } W)
    (hstop : ∀ (c : Code) (pre : List α) (W : World), Ix c pre W → W.heap[w.heap.size]? = some (.deferred (some [])) → c.wpIn F n P Q { a with defers := { target := .collected w.heap.size, args := #[] } :: a.defers } W) :
    (Code.rangeFunc g ps assign body).wpIn F n P Q a w := by
  refine wpIn_rangeFunc ?_
  intro fn hfn
  rw [hro]
  obtain ⟨rec, hrec⟩ : ∃ rec : LoopState → Option Code → Loop, rec = fun st pe => { state := st, pending := pe, fn, tmps := a.tmps, params := ps, assign, body, defers := w.heap.size } := ⟨_, rfl⟩
  obtain ⟨W1, hW1⟩ : ∃ W1, (w.alloc (.deferred (some []))).alloc (.loop (rec .ready none)) = W1 := ⟨_, rfl⟩
  have hL1 : W1.heap[w.heap.size + 1]? = some (.loop (rec .ready none)) := by
    rw [← hW1]; have := World.alloc_heap_new (w.alloc (.deferred (some []))) (.loop (rec .ready none)); rwa [World.size_alloc] at this
  have hK1 : W1.heap[w.heap.size]? = some (.deferred (some [])) := by
    rw [← hW1]; exact (Below.heap_alloc _ _ _ (by simp)).trans (World.alloc_heap_new w _)
  have hI1 : I [] W1 := by rw [← hW1]; exact hI.alloc _ (hI.alloc _ h0)
  refine ⟨w.heap.size + 1, [{ target := .collected w.heap.size, args := #[] }], W1, { target := .fn (.func gf) lb, args := #[.func (.yield (w.heap.size + 1)) #[] #[]] }, W1, gf,
    #[.func (.yield (w.heap.size + 1)) #[] #[]] ++ lb, W1, ?_, ?_, ?_, ?_, fun _ => h1, ?_⟩
  · rw [← hW1, hrec]; exact run_enterLoop_outer _ _ _ _ _
  · simp only [resolve, hg]
    simp [go_sem]
  · intro f' hf'; simp [Target.leads] at hf'; subst hf'; exact hFg
  · simp [invoke, go_sem, eg]
  · refine (hiter (w.heap.size + 1)
      (fun W => W.heap[w.heap.size + 1]? = some (.loop (rec .ready none)) ∧ W.heap[w.heap.size]? = some (.deferred (some [])))
      (fun c W => W.heap[w.heap.size + 1]? = some (.loop (rec .done (some c))) ∧ W.heap[w.heap.size]? = some (.deferred (some [])))
      (Nat.le_succ _)
      (fun W W' h hk => ⟨hk.same _ _ (Nat.le_succ _) h.1 rfl, hk.same _ _ (Nat.le_refl _) h.2 rfl⟩)
      (fun c W W' h hk => ⟨hk.same _ _ (Nat.le_succ _) h.1 rfl, hk.same _ _ (Nat.le_refl _) h.2 rfl⟩)
      (fun W h => (Array.getElem?_eq_some_iff.1 h.1).1)
      ?_ W1 hI1 ⟨hL1, hK1⟩).mono ?_
    · rintro pre x W hi ⟨hl, hk⟩
      have hlt : w.heap.size + 1 < W.heap.size := (Array.getElem?_eq_some_iff.1 hl).1
      have hy := run_yield (P := P) (args := encs x) hl (by rw [hrec]; exact hps x)
      rw [hrec] at hy
      refine ⟨fn, _, assign, body, hy, roundIn_of_wpIn hfn (hassign _ x W _ ⟨_, run_beginRound hl (by rw [hrec]), ?_⟩)⟩
      have hl2 : (W.putObj (w.heap.size + 1) (.loop { rec .ready none with state := .busy })).heap[w.heap.size + 1]? = some (.loop { rec .ready none with state := .busy }) := World.putObj_heap_same hlt
      have hk2 : (W.putObj (w.heap.size + 1) (.loop { rec .ready none with state := .busy })).heap[w.heap.size]? = some (.deferred (some [])) := (World.putObj_heap_other (by omega)).trans hk
      refine wpIn_mono (hbody _ pre x _ (hM _ _ _ _ _ hi (by omega) hl rfl)) ?_
      have fin : ∀ (jump : Option Code) (W3 : World), KeepsFrom w.heap.size (W.putObj (w.heap.size + 1) (.loop { rec .ready none with state := .busy })) W3 →
          (Instr.endRound (w.heap.size + 1) jump).run P W3 = .ok (.bool jump.isNone) (W3.putObj (w.heap.size + 1) (.loop (rec (if jump.isNone then .ready else .done) jump))) ∧
          W3.heap[w.heap.size + 1]? = some (.loop { rec .ready none with state := .busy }) ∧
          (W3.putObj (w.heap.size + 1) (.loop (rec (if jump.isNone then .ready else .done) jump))).heap[w.heap.size + 1]? = some (.loop (rec (if jump.isNone then .ready else .done) jump)) ∧
          (W3.putObj (w.heap.size + 1) (.loop (rec (if jump.isNone then .ready else .done) jump))).heap[w.heap.size]? = some (.deferred (some [])) := fun jump W3 hk3 => by
        have hl3 := hk3.same _ _ (Nat.le_succ _) hl2 rfl
        have := run_endRound (P := P) jump hl3
        rw [hrec] at this ⊢
        exact ⟨this, by rw [hrec] at hl3; exact hl3, World.putObj_heap_same (Array.getElem?_eq_some_iff.1 hl3).1, (World.putObj_heap_other (by omega)).trans (hk3.same _ _ (Nat.le_refl _) hk2 rfl)⟩
      rintro e a3 W3 hp
      cases e with
      | normal =>
        obtain ⟨hk3, hi3⟩ := hp
        obtain ⟨hr, hl3, hl4, hk4⟩ := fin none W3 hk3
        exact ⟨_, _, hr, .inl ⟨rfl, hI.putObj _ hi3 (by omega) hl3 rfl, hl4, hk4⟩⟩
      | ret =>
        obtain ⟨hk3, hi3⟩ := hp
        obtain ⟨hr, hl3, hl4, hk4⟩ := fin (some .ret) W3 hk3
        exact ⟨_, _, hr, .inr ⟨rfl, .ret, hIx _ _ _ _ _ _ hi3 (by omega) hl3 rfl, hl4, hk4⟩⟩
      | exit id =>
        obtain ⟨hk3, hi3⟩ := hp
        obtain ⟨hr, hl3, hl4, hk4⟩ := fin (some (.exit id)) W3 hk3
        exact ⟨_, _, hr, .inr ⟨rfl, .exit id, hIx _ _ _ _ _ _ hi3 (by omega) hl3 rfl, hl4, hk4⟩⟩
      | goto t =>
        obtain ⟨hk3, hi3⟩ := hp
        obtain ⟨hr, hl3, hl4, hk4⟩ := fin (some (.goto t)) W3 hk3
        exact ⟨_, _, hr, .inr ⟨rfl, .goto t, hIx _ _ _ _ _ _ hi3 (by omega) hl3 rfl, hl4, hk4⟩⟩
      | panic ch => exact hp.elim
      | outgrown => exact hp.elim
    · rintro e W2 ⟨⟨v, rfl⟩, (⟨xs, hS, hi, hl, hk⟩ | ⟨c, pre, hi, hl, hk⟩)⟩
      · exact ⟨none, _, by have := run_endLoop (P := P) hl (by rw [hrec]; simp); rw [hrec] at this; exact this, hdone xs _ hS (hI.putObj _ hi (by omega) hl rfl) ((World.putObj_heap_other (by omega)).trans hk)⟩
      · exact ⟨some c, _, by have := run_endLoop (P := P) hl (by rw [hrec]; simp); rw [hrec] at this; exact this, hstop c pre _ (hIx c _ _ _ _ _ hi (by omega) hl rfl) ((World.putObj_heap_other (by omega)).trans hk)⟩
end Go.Proofs.YtdaojlipkffigaaGreatDoor
