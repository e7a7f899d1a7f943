/- SW, SX: merged by merge.py. -/
import Derived.Test.YtcaimmhhklcpoaaGreatDoorLL21
import Derived.Test.YtcaimmhhklcpoaaGreatDoorLL20
import Derived.Test.YtcaimmhhklcpoaaGreatDoorLL22
import Derived.Test.YtcaimmhhklcpoaaGreatDoorLL23
namespace Go.Proofs.YtcaimmhhklcpoaaGreatDoor
set_option linter.unusedVariables false
set_option linter.unusedSimpArgs false
set_option maxRecDepth 100000
open Go Go.RowKit
set_option maxHeartbeats 16000000 in
theorem alike_any (B : Nat) (first : LM) (st : Nat) (A : Option Addr) (n c : Nat) (f : Nat → LR) (W : World) (hR : RowsV W A n f) (hn : n ≤ 1000) (hS : ShortR f) (hw : Words first f) (hT : Tabs B W) (hB : B ≤ W.heap.size) (hE : ErrT W) :
    Calls Tryz.prog 5 #[.agg #[.string (mkS first.h), .string (mkS first.p), .int .u64 (first.c : Nat), .int .u64 (first.w : Nat), .int .u64 (first.f : Nat), .int .u64 (first.l : Nat), .int .u64 (st : Nat), .slice none 0 0, .slice A n c]] W fun e w' => e = .returned (.bool true) ∧ But [] W w' := by
  have B0 := Shut.mk ((But.refl [] W).alloc (.cells #[.string (mkS first.h), .string (mkS first.p), .int .u64 (first.c : Nat), .int .u64 (first.w : Nat), .int .u64 (first.f : Nat), .int .u64 (first.l : Nat), .int .u64 (st : Nat), .slice none 0 0, .slice A n c] 34))
  have PB := Shut.mk (Blk.new W #[.string (mkS first.h), .string (mkS first.p), .int .u64 (first.c : Nat), .int .u64 (first.w : Nat), .int .u64 (first.f : Nat), .int .u64 (first.l : Nat), .int .u64 (st : Nat), .slice none 0 0, .slice A n c] 34)
  have HR := Shut.mk hR
  have HN := Shut.mk hn
  have HS := Shut.mk hS
  have HW := Shut.mk hw
  have HT := Shut.mk (And.intro hT (And.intro hB hE))
  clear hR hn hS hw hT hB hE
  go_enter Tryz.func5, Tryz.ntmps5
  go_wp2_with fail
  generalize W.alloc (.cells #[.string (mkS first.h), .string (mkS first.p), .int .u64 (first.c : Nat), .int .u64 (first.w : Nat), .int .u64 (first.f : Nat), .int .u64 (first.l : Nat), .int .u64 (st : Nat), .slice none 0 0, .slice A n c] 34) = w0 at *
  have hd : But [] w0 w0.drew := (But.refl [] w0).drew
  refine wp_region_s (by kernel_rfl) ?_
  refine sAny_take (i := 0) (v := .pointer (some ⟨W.heap.size, 8, none⟩)) rfl (by kernel_rfl) (by kernel_rfl) (by kernel_rfl) (fixX_value (by rfl) ?_) ?_
  · (intro W1 hl; go_simp <;> with_reducible rfl)
  simp only [List.getElem_toArray, List.getElem_cons_zero, List.getElem_cons_succ, Act.put, List.setIfInBounds_toArray, List.set_cons_zero, List.set_cons_succ]
  refine sAny_take (i := 1) (v := .slice A n c) rfl (by kernel_rfl) (by kernel_rfl) (by kernel_rfl) (fixX_value (by rfl) ?_) ?_
  · (intro W1 hl; have hx := PB.out.but (hd.trans hl) (by simp); have e8 : W1.cell? ⟨W.heap.size, 8, none⟩ = some (.slice A n c) := hx.cell 8 rfl; have el := hx.lt; clear hx; go_simp <;> with_reducible rfl)
  simp only [List.getElem_toArray, List.getElem_cons_zero, List.getElem_cons_succ, Act.put, List.setIfInBounds_toArray, List.set_cons_zero, List.set_cons_succ]
  refine sAny_take (i := 3) (v := .pointer (some ⟨W.heap.size, 7, none⟩)) rfl (by kernel_rfl) (by kernel_rfl) (by kernel_rfl) (fixX_value (by rfl) ?_) ?_
  · (intro W1 hl; go_simp <;> with_reducible rfl)
  simp only [List.getElem_toArray, List.getElem_cons_zero, List.getElem_cons_succ, Act.put, List.setIfInBounds_toArray, List.set_cons_zero, List.set_cons_succ]
  refine sAny_take (i := 4) (v := .slice none 0 0) rfl (by kernel_rfl) (by kernel_rfl) (by kernel_rfl) (fixX_value (by rfl) ?_) ?_
  · (intro W1 hl; have hx := PB.out.but (hd.trans hl) (by simp); have e7 : W1.cell? ⟨W.heap.size, 7, none⟩ = some (.slice none 0 0) := hx.cell 7 rfl; have el := hx.lt; clear hx; go_simp <;> with_reducible rfl)
  simp only [List.getElem_toArray, List.getElem_cons_zero, List.getElem_cons_succ, Act.put, List.setIfInBounds_toArray, List.set_cons_zero, List.set_cons_succ]
  refine sAny_all (rs := [2]) (by kernel_rfl) (by simp) ?_
  intro i hi w5 hl
  replace hd := hd.trans hl
  clear hl
  simp only [List.mem_cons, List.not_mem_nil, or_false] at hi
  subst hi
  refine sOp_call (f := 15) (args := #[.slice A n c]) (R := fun v w' => ∃ A' c', v = .slice A' n c' ∧ RowsV w' A' n f ∧ But [] w5 w') rfl (by rfl) (by go_simp <;> with_reducible rfl) ((rows_any A n c f w5 (HR.out.but (B0.out.trans hd)) HN.out).mono ?_) ?_
  · rintro e w' ⟨A', c', rfl, h1, h2⟩; exact ⟨_, rfl, A', c', rfl, h1, h2⟩
  rintro v w6 ⟨A2, c2, rfl, hR2, hb6⟩
  refine ⟨hb6, ?_⟩
  simp only [List.getElem_toArray, List.getElem_cons_zero, List.getElem_cons_succ, Act.put, List.setIfInBounds_toArray, List.set_cons_zero, List.set_cons_succ]
  replace hd := hd.trans hb6
  have hd6 : But [] w6 w6 := But.refl _ _
  refine sAny_take (i := 5) (v := .slice none 0 0) rfl (by kernel_rfl) (by kernel_rfl) (by kernel_rfl) (fixX_enter (by rfl) (fun W1 hl => intervals_nil W1) ?_) ?_
  · (intro W1 hl; go_simp <;> with_reducible rfl)
  simp only [List.getElem_toArray, List.getElem_cons_zero, List.getElem_cons_succ, Act.put, List.setIfInBounds_toArray, List.set_cons_zero, List.set_cons_succ]
  refine sAny_take (i := 6) (v := .slice A2 n c2) rfl (by kernel_rfl) (by kernel_rfl) (by kernel_rfl) (fixX_value (by rfl) ?_) ?_
  · (intro W1 hl; go_simp <;> with_reducible rfl)
  simp only [List.getElem_toArray, List.getElem_cons_zero, List.getElem_cons_succ, Act.put, List.setIfInBounds_toArray, List.set_cons_zero, List.set_cons_succ]
  refine sAny_take (i := 7) (v := .slice none 0 0) rfl (by kernel_rfl) (by kernel_rfl) (by kernel_rfl) (fixX_value (by rfl) ?_) ?_
  · (intro W1 hl; go_simp <;> with_reducible rfl)
  simp only [List.getElem_toArray, List.getElem_cons_zero, List.getElem_cons_succ, Act.put, List.setIfInBounds_toArray, List.set_cons_zero, List.set_cons_succ]
  refine sAny_done (by kernel_rfl) ?_ _
  intro w3 hb3
  replace hd := hd.trans hb3
  have PB3 := Shut.mk (PB.out.but hd (by simp))
  have BW := Shut.mk (B0.out.trans hd)
  have HR3 := Shut.mk (HR.out.but BW.out)
  have RR3 := Shut.mk (hR2.but hb3)
  clear hd hb3 hb6 hR2 hd6
  go_wp2_with fail
  have TB : Shut (∀ W1, But [] w3 W1 → Tabs B W1) := ⟨fun W1 h => HT.out.1.below ((BW.out.trans h).below HT.out.2.1 (by simp))⟩
  have BB : Shut (∀ W1, But [] w3 W1 → B ≤ W1.heap.size) := ⟨fun W1 h => Nat.le_trans HT.out.2.1 (BW.out.trans h).size⟩
  have EB : Shut (∀ W1, But [] w3 W1 → ErrT W1) := ⟨fun W1 h => HT.out.2.2.but (BW.out.trans h) (by simp)⟩
  have C7 := Shut.mk (fun W1 (h : But [] w3 W1) => agree_any A n c f W1 (HR3.out.but h))
  have C17 := Shut.mk (fun W1 (h : But [] w3 W1) => refagree_any A2 n c2 f W1 (RR3.out.but h))
  have C11 := Shut.mk (fun W1 (h : But [] w3 W1) => rises_any B first A n c f W1 (HR3.out.but h) HS.out (TB.out W1 h) (BB.out W1 h) (EB.out W1 h))
  have C18 := Shut.mk (fun W1 (h : But [] w3 W1) => refrises_any first A2 n c2 f W1 (RR3.out.but h) HS.out)
  have C13 := Shut.mk (fun W1 (h : But [] w3 W1) => truth_any A n c f W1 (HR3.out.but h))
  have C19 := Shut.mk (fun W1 (h : But [] w3 W1) => reftruth_any A2 n c2 f W1 (RR3.out.but h))
  have C14 := Shut.mk (fun W1 (h : But [] w3 W1) => reveals_any B A n c f W1 (HR3.out.but h) HS.out (TB.out W1 h) (BB.out W1 h) (EB.out W1 h))
  have C20 := Shut.mk (fun W1 (h : But [] w3 W1) => refreveals_any A2 n c2 f W1 (RR3.out.but h) HS.out)
  have C12 := Shut.mk (fun W1 (h : But [] w3 W1) => enough_any B first st A n c f W1 (HR3.out.but h) HS.out HW.out (TB.out W1 h) (BB.out W1 h) (EB.out W1 h))
  have C21 := Shut.mk (fun W1 (h : But [] w3 W1) => refenough_any first st A2 n c2 f W1 (RR3.out.but h) HS.out HW.out)
  simp only [msgAgg] at C11 C18 C12 C21
  have hd : But [] w3 w3.drew := (But.refl [] w3).drew
  refine wp_region_s (by kernel_rfl) ?_
  refine sAny_take (i := 0) (v := .pointer (some ⟨W.heap.size, 8, none⟩)) rfl (by kernel_rfl) (by kernel_rfl) (by kernel_rfl) (fixX_value (by rfl) ?_) ?_
  · (intro W1 hl; go_simp <;> with_reducible rfl)
  simp only [List.getElem_toArray, List.getElem_cons_zero, List.getElem_cons_succ, Act.put, List.setIfInBounds_toArray, List.set_cons_zero, List.set_cons_succ]
  refine sAny_take (i := 1) (v := .slice A n c) rfl (by kernel_rfl) (by kernel_rfl) (by kernel_rfl) (fixX_value (by rfl) ?_) ?_
  · (intro W1 hl; have hx := PB3.out.but (hd.trans hl) (by simp); have e8 : W1.cell? ⟨W.heap.size, 8, none⟩ = some (.slice A n c) := hx.cell 8 rfl; have el := hx.lt; clear hx; go_simp <;> with_reducible rfl)
  simp only [List.getElem_toArray, List.getElem_cons_zero, List.getElem_cons_succ, Act.put, List.setIfInBounds_toArray, List.set_cons_zero, List.set_cons_succ]
  refine sAny_take (i := 2) (v := .int .i64 (firstIdx (fun i => !agr (f i)) n 0)) rfl (by kernel_rfl) (by kernel_rfl) (by kernel_rfl) (fixX_enter (by rfl) (fun W1 hl => C7.out W1 (hd.trans hl)) ?_) ?_
  · (intro W1 hl; go_simp <;> with_reducible rfl)
  simp only [List.getElem_toArray, List.getElem_cons_zero, List.getElem_cons_succ, Act.put, List.setIfInBounds_toArray, List.set_cons_zero, List.set_cons_succ]
  refine sAny_take (i := 3) (v := .slice A2 n c2) rfl (by kernel_rfl) (by kernel_rfl) (by kernel_rfl) (fixX_value (by rfl) ?_) ?_
  · (intro W1 hl; go_simp <;> with_reducible rfl)
  simp only [List.getElem_toArray, List.getElem_cons_zero, List.getElem_cons_succ, Act.put, List.setIfInBounds_toArray, List.set_cons_zero, List.set_cons_succ]
  refine sAny_take (i := 4) (v := .int .i64 (firstIdx (fun i => !agr (f i)) n 0)) rfl (by kernel_rfl) (by kernel_rfl) (by kernel_rfl) (fixX_enter (by rfl) (fun W1 hl => C17.out W1 (hd.trans hl)) ?_) ?_
  · (intro W1 hl; go_simp <;> with_reducible rfl)
  simp only [List.getElem_toArray, List.getElem_cons_zero, List.getElem_cons_succ, Act.put, List.setIfInBounds_toArray, List.set_cons_zero, List.set_cons_succ]
  refine sAny_take (i := 5) (v := .bool true) rfl (by kernel_rfl) (by kernel_rfl) (by kernel_rfl) (fixX_value (by rfl) ?_) ?_
  · (intro W1 hl; go_simp <;> with_reducible rfl)
  simp only [List.getElem_toArray, List.getElem_cons_zero, List.getElem_cons_succ, Act.put, List.setIfInBounds_toArray, List.set_cons_zero, List.set_cons_succ]
  refine sAny_take (i := 6) (v := .bool true) rfl (by kernel_rfl) (by kernel_rfl) (by kernel_rfl) (fixX_value (by rfl) ?_) ?_
  · (intro W1 hl; go_simp <;> with_reducible rfl)
  simp only [List.getElem_toArray, List.getElem_cons_zero, List.getElem_cons_succ, Act.put, List.setIfInBounds_toArray, List.set_cons_zero, List.set_cons_succ]
  refine sAny_take (i := 7) (v := .pointer (some ⟨W.heap.size, 0, none⟩)) rfl (by kernel_rfl) (by kernel_rfl) (by kernel_rfl) (fixX_value (by rfl) ?_) ?_
  · (intro W1 hl; go_simp <;> with_reducible rfl)
  simp only [List.getElem_toArray, List.getElem_cons_zero, List.getElem_cons_succ, Act.put, List.setIfInBounds_toArray, List.set_cons_zero, List.set_cons_succ]
  refine sAny_take (i := 8) (v := .agg #[.string (mkS first.h), .string (mkS first.p), .int .u64 (first.c : Nat), .int .u64 (first.w : Nat), .int .u64 (first.f : Nat), .int .u64 (first.l : Nat)]) rfl (by kernel_rfl) (by kernel_rfl) (by kernel_rfl) (fixX_value (by rfl) ?_) ?_
  · (intro W1 hl; have hx := PB3.out.but (hd.trans hl) (by simp); have e0 : W1.cell? ⟨W.heap.size, 0, none⟩ = some (.string (mkS first.h)) := hx.cell 0 rfl; have e1 : W1.cell? ⟨W.heap.size, 1, none⟩ = some (.string (mkS first.p)) := hx.cell 1 rfl; have e2 : W1.cell? ⟨W.heap.size, 2, none⟩ = some (.int .u64 (first.c : Nat)) := hx.cell 2 rfl; have e3 : W1.cell? ⟨W.heap.size, 3, none⟩ = some (.int .u64 (first.w : Nat)) := hx.cell 3 rfl; have e4 : W1.cell? ⟨W.heap.size, 4, none⟩ = some (.int .u64 (first.f : Nat)) := hx.cell 4 rfl; have e5 : W1.cell? ⟨W.heap.size, 5, none⟩ = some (.int .u64 (first.l : Nat)) := hx.cell 5 rfl; have el := hx.lt; clear hx; go_simp <;> with_reducible rfl)
  simp only [List.getElem_toArray, List.getElem_cons_zero, List.getElem_cons_succ, Act.put, List.setIfInBounds_toArray, List.set_cons_zero, List.set_cons_succ]
  refine sAny_take (i := 9) (v := .pointer (some ⟨W.heap.size, 8, none⟩)) rfl (by kernel_rfl) (by kernel_rfl) (by kernel_rfl) (fixX_value (by rfl) ?_) ?_
  · (intro W1 hl; go_simp <;> with_reducible rfl)
  simp only [List.getElem_toArray, List.getElem_cons_zero, List.getElem_cons_succ, Act.put, List.setIfInBounds_toArray, List.set_cons_zero, List.set_cons_succ]
  refine sAny_take (i := 10) (v := .slice A n c) rfl (by kernel_rfl) (by kernel_rfl) (by kernel_rfl) (fixX_value (by rfl) ?_) ?_
  · (intro W1 hl; have hx := PB3.out.but (hd.trans hl) (by simp); have e8 : W1.cell? ⟨W.heap.size, 8, none⟩ = some (.slice A n c) := hx.cell 8 rfl; have el := hx.lt; clear hx; go_simp <;> with_reducible rfl)
  simp only [List.getElem_toArray, List.getElem_cons_zero, List.getElem_cons_succ, Act.put, List.setIfInBounds_toArray, List.set_cons_zero, List.set_cons_succ]
  refine sAny_take (i := 11) (v := .int .i64 (firstIdx (badR first f) n 0)) rfl (by kernel_rfl) (by kernel_rfl) (by kernel_rfl) (fixX_enter (by rfl) (fun W1 hl => C11.out W1 (hd.trans hl)) ?_) ?_
  · (intro W1 hl; go_simp <;> with_reducible rfl)
  simp only [List.getElem_toArray, List.getElem_cons_zero, List.getElem_cons_succ, Act.put, List.setIfInBounds_toArray, List.set_cons_zero, List.set_cons_succ]
  refine sAny_take (i := 12) (v := .pointer (some ⟨W.heap.size, 0, none⟩)) rfl (by kernel_rfl) (by kernel_rfl) (by kernel_rfl) (fixX_value (by rfl) ?_) ?_
  · (intro W1 hl; go_simp <;> with_reducible rfl)
  simp only [List.getElem_toArray, List.getElem_cons_zero, List.getElem_cons_succ, Act.put, List.setIfInBounds_toArray, List.set_cons_zero, List.set_cons_succ]
  refine sAny_take (i := 13) (v := .agg #[.string (mkS first.h), .string (mkS first.p), .int .u64 (first.c : Nat), .int .u64 (first.w : Nat), .int .u64 (first.f : Nat), .int .u64 (first.l : Nat)]) rfl (by kernel_rfl) (by kernel_rfl) (by kernel_rfl) (fixX_value (by rfl) ?_) ?_
  · (intro W1 hl; have hx := PB3.out.but (hd.trans hl) (by simp); have e0 : W1.cell? ⟨W.heap.size, 0, none⟩ = some (.string (mkS first.h)) := hx.cell 0 rfl; have e1 : W1.cell? ⟨W.heap.size, 1, none⟩ = some (.string (mkS first.p)) := hx.cell 1 rfl; have e2 : W1.cell? ⟨W.heap.size, 2, none⟩ = some (.int .u64 (first.c : Nat)) := hx.cell 2 rfl; have e3 : W1.cell? ⟨W.heap.size, 3, none⟩ = some (.int .u64 (first.w : Nat)) := hx.cell 3 rfl; have e4 : W1.cell? ⟨W.heap.size, 4, none⟩ = some (.int .u64 (first.f : Nat)) := hx.cell 4 rfl; have e5 : W1.cell? ⟨W.heap.size, 5, none⟩ = some (.int .u64 (first.l : Nat)) := hx.cell 5 rfl; have el := hx.lt; clear hx; go_simp <;> with_reducible rfl)
  simp only [List.getElem_toArray, List.getElem_cons_zero, List.getElem_cons_succ, Act.put, List.setIfInBounds_toArray, List.set_cons_zero, List.set_cons_succ]
  refine sAny_take (i := 14) (v := .slice A2 n c2) rfl (by kernel_rfl) (by kernel_rfl) (by kernel_rfl) (fixX_value (by rfl) ?_) ?_
  · (intro W1 hl; go_simp <;> with_reducible rfl)
  simp only [List.getElem_toArray, List.getElem_cons_zero, List.getElem_cons_succ, Act.put, List.setIfInBounds_toArray, List.set_cons_zero, List.set_cons_succ]
  refine sAny_take (i := 15) (v := .int .i64 (firstIdx (badR first f) n 0)) rfl (by kernel_rfl) (by kernel_rfl) (by kernel_rfl) (fixX_enter (by rfl) (fun W1 hl => C18.out W1 (hd.trans hl)) ?_) ?_
  · (intro W1 hl; go_simp <;> with_reducible rfl)
  simp only [List.getElem_toArray, List.getElem_cons_zero, List.getElem_cons_succ, Act.put, List.setIfInBounds_toArray, List.set_cons_zero, List.set_cons_succ]
  refine sAny_take (i := 16) (v := .bool true) rfl (by kernel_rfl) (by kernel_rfl) (by kernel_rfl) (fixX_value (by rfl) ?_) ?_
  · (intro W1 hl; go_simp <;> with_reducible rfl)
  simp only [List.getElem_toArray, List.getElem_cons_zero, List.getElem_cons_succ, Act.put, List.setIfInBounds_toArray, List.set_cons_zero, List.set_cons_succ]
  refine sAny_take (i := 17) (v := .bool true) rfl (by kernel_rfl) (by kernel_rfl) (by kernel_rfl) (fixX_value (by rfl) ?_) ?_
  · (intro W1 hl; go_simp <;> with_reducible rfl)
  simp only [List.getElem_toArray, List.getElem_cons_zero, List.getElem_cons_succ, Act.put, List.setIfInBounds_toArray, List.set_cons_zero, List.set_cons_succ]
  refine sAny_take (i := 18) (v := .bool true) rfl (by kernel_rfl) (by kernel_rfl) (by kernel_rfl) (fixX_value (by rfl) ?_) ?_
  · (intro W1 hl; go_simp <;> with_reducible rfl)
  simp only [List.getElem_toArray, List.getElem_cons_zero, List.getElem_cons_succ, Act.put, List.setIfInBounds_toArray, List.set_cons_zero, List.set_cons_succ]
  refine sAny_take (i := 19) (v := .pointer (some ⟨W.heap.size, 8, none⟩)) rfl (by kernel_rfl) (by kernel_rfl) (by kernel_rfl) (fixX_value (by rfl) ?_) ?_
  · (intro W1 hl; go_simp <;> with_reducible rfl)
  simp only [List.getElem_toArray, List.getElem_cons_zero, List.getElem_cons_succ, Act.put, List.setIfInBounds_toArray, List.set_cons_zero, List.set_cons_succ]
  refine sAny_take (i := 20) (v := .slice A n c) rfl (by kernel_rfl) (by kernel_rfl) (by kernel_rfl) (fixX_value (by rfl) ?_) ?_
  · (intro W1 hl; have hx := PB3.out.but (hd.trans hl) (by simp); have e8 : W1.cell? ⟨W.heap.size, 8, none⟩ = some (.slice A n c) := hx.cell 8 rfl; have el := hx.lt; clear hx; go_simp <;> with_reducible rfl)
  simp only [List.getElem_toArray, List.getElem_cons_zero, List.getElem_cons_succ, Act.put, List.setIfInBounds_toArray, List.set_cons_zero, List.set_cons_succ]
  refine sAny_take (i := 21) (v := .pointer (some ⟨W.heap.size, 7, none⟩)) rfl (by kernel_rfl) (by kernel_rfl) (by kernel_rfl) (fixX_value (by rfl) ?_) ?_
  · (intro W1 hl; go_simp <;> with_reducible rfl)
  simp only [List.getElem_toArray, List.getElem_cons_zero, List.getElem_cons_succ, Act.put, List.setIfInBounds_toArray, List.set_cons_zero, List.set_cons_succ]
  refine sAny_take (i := 22) (v := .slice none 0 0) rfl (by kernel_rfl) (by kernel_rfl) (by kernel_rfl) (fixX_value (by rfl) ?_) ?_
  · (intro W1 hl; have hx := PB3.out.but (hd.trans hl) (by simp); have e7 : W1.cell? ⟨W.heap.size, 7, none⟩ = some (.slice none 0 0) := hx.cell 7 rfl; have el := hx.lt; clear hx; go_simp <;> with_reducible rfl)
  simp only [List.getElem_toArray, List.getElem_cons_zero, List.getElem_cons_succ, Act.put, List.setIfInBounds_toArray, List.set_cons_zero, List.set_cons_succ]
  refine sAny_take (i := 23) (v := .int .i64 (firstIdx (fun i => badT (f i)) n 0)) rfl (by kernel_rfl) (by kernel_rfl) (by kernel_rfl) (fixX_enter (by rfl) (fun W1 hl => C13.out W1 (hd.trans hl)) ?_) ?_
  · (intro W1 hl; go_simp <;> with_reducible rfl)
  simp only [List.getElem_toArray, List.getElem_cons_zero, List.getElem_cons_succ, Act.put, List.setIfInBounds_toArray, List.set_cons_zero, List.set_cons_succ]
  refine sAny_take (i := 24) (v := .slice A2 n c2) rfl (by kernel_rfl) (by kernel_rfl) (by kernel_rfl) (fixX_value (by rfl) ?_) ?_
  · (intro W1 hl; go_simp <;> with_reducible rfl)
  simp only [List.getElem_toArray, List.getElem_cons_zero, List.getElem_cons_succ, Act.put, List.setIfInBounds_toArray, List.set_cons_zero, List.set_cons_succ]
  refine sAny_take (i := 25) (v := .slice none 0 0) rfl (by kernel_rfl) (by kernel_rfl) (by kernel_rfl) (fixX_value (by rfl) ?_) ?_
  · (intro W1 hl; go_simp <;> with_reducible rfl)
  simp only [List.getElem_toArray, List.getElem_cons_zero, List.getElem_cons_succ, Act.put, List.setIfInBounds_toArray, List.set_cons_zero, List.set_cons_succ]
  refine sAny_take (i := 26) (v := .int .i64 (firstIdx (fun i => badT (f i)) n 0)) rfl (by kernel_rfl) (by kernel_rfl) (by kernel_rfl) (fixX_enter (by rfl) (fun W1 hl => C19.out W1 (hd.trans hl)) ?_) ?_
  · (intro W1 hl; go_simp <;> with_reducible rfl)
  simp only [List.getElem_toArray, List.getElem_cons_zero, List.getElem_cons_succ, Act.put, List.setIfInBounds_toArray, List.set_cons_zero, List.set_cons_succ]
  refine sAny_take (i := 27) (v := .bool true) rfl (by kernel_rfl) (by kernel_rfl) (by kernel_rfl) (fixX_value (by rfl) ?_) ?_
  · (intro W1 hl; go_simp <;> with_reducible rfl)
  simp only [List.getElem_toArray, List.getElem_cons_zero, List.getElem_cons_succ, Act.put, List.setIfInBounds_toArray, List.set_cons_zero, List.set_cons_succ]
  refine sAny_take (i := 28) (v := .bool true) rfl (by kernel_rfl) (by kernel_rfl) (by kernel_rfl) (fixX_value (by rfl) ?_) ?_
  · (intro W1 hl; go_simp <;> with_reducible rfl)
  simp only [List.getElem_toArray, List.getElem_cons_zero, List.getElem_cons_succ, Act.put, List.setIfInBounds_toArray, List.set_cons_zero, List.set_cons_succ]
  refine sAny_take (i := 29) (v := .bool true) rfl (by kernel_rfl) (by kernel_rfl) (by kernel_rfl) (fixX_value (by rfl) ?_) ?_
  · (intro W1 hl; go_simp <;> with_reducible rfl)
  simp only [List.getElem_toArray, List.getElem_cons_zero, List.getElem_cons_succ, Act.put, List.setIfInBounds_toArray, List.set_cons_zero, List.set_cons_succ]
  refine sAny_take (i := 30) (v := .pointer (some ⟨W.heap.size, 8, none⟩)) rfl (by kernel_rfl) (by kernel_rfl) (by kernel_rfl) (fixX_value (by rfl) ?_) ?_
  · (intro W1 hl; go_simp <;> with_reducible rfl)
  simp only [List.getElem_toArray, List.getElem_cons_zero, List.getElem_cons_succ, Act.put, List.setIfInBounds_toArray, List.set_cons_zero, List.set_cons_succ]
  refine sAny_take (i := 31) (v := .slice A n c) rfl (by kernel_rfl) (by kernel_rfl) (by kernel_rfl) (fixX_value (by rfl) ?_) ?_
  · (intro W1 hl; have hx := PB3.out.but (hd.trans hl) (by simp); have e8 : W1.cell? ⟨W.heap.size, 8, none⟩ = some (.slice A n c) := hx.cell 8 rfl; have el := hx.lt; clear hx; go_simp <;> with_reducible rfl)
  simp only [List.getElem_toArray, List.getElem_cons_zero, List.getElem_cons_succ, Act.put, List.setIfInBounds_toArray, List.set_cons_zero, List.set_cons_succ]
  refine sAny_take (i := 32) (v := .pointer (some ⟨W.heap.size, 7, none⟩)) rfl (by kernel_rfl) (by kernel_rfl) (by kernel_rfl) (fixX_value (by rfl) ?_) ?_
  · (intro W1 hl; go_simp <;> with_reducible rfl)
  simp only [List.getElem_toArray, List.getElem_cons_zero, List.getElem_cons_succ, Act.put, List.setIfInBounds_toArray, List.set_cons_zero, List.set_cons_succ]
  refine sAny_take (i := 33) (v := .slice none 0 0) rfl (by kernel_rfl) (by kernel_rfl) (by kernel_rfl) (fixX_value (by rfl) ?_) ?_
  · (intro W1 hl; have hx := PB3.out.but (hd.trans hl) (by simp); have e7 : W1.cell? ⟨W.heap.size, 7, none⟩ = some (.slice none 0 0) := hx.cell 7 rfl; have el := hx.lt; clear hx; go_simp <;> with_reducible rfl)
  simp only [List.getElem_toArray, List.getElem_cons_zero, List.getElem_cons_succ, Act.put, List.setIfInBounds_toArray, List.set_cons_zero, List.set_cons_succ]
  refine sAny_take (i := 34) (v := .int .i64 (firstIdx (fun i => tk (f i)) n 0)) rfl (by kernel_rfl) (by kernel_rfl) (by kernel_rfl) (fixX_enter (by rfl) (fun W1 hl => C14.out W1 (hd.trans hl)) ?_) ?_
  · (intro W1 hl; go_simp <;> with_reducible rfl)
  simp only [List.getElem_toArray, List.getElem_cons_zero, List.getElem_cons_succ, Act.put, List.setIfInBounds_toArray, List.set_cons_zero, List.set_cons_succ]
  refine sAny_take (i := 35) (v := .slice A2 n c2) rfl (by kernel_rfl) (by kernel_rfl) (by kernel_rfl) (fixX_value (by rfl) ?_) ?_
  · (intro W1 hl; go_simp <;> with_reducible rfl)
  simp only [List.getElem_toArray, List.getElem_cons_zero, List.getElem_cons_succ, Act.put, List.setIfInBounds_toArray, List.set_cons_zero, List.set_cons_succ]
  refine sAny_take (i := 36) (v := .slice none 0 0) rfl (by kernel_rfl) (by kernel_rfl) (by kernel_rfl) (fixX_value (by rfl) ?_) ?_
  · (intro W1 hl; go_simp <;> with_reducible rfl)
  simp only [List.getElem_toArray, List.getElem_cons_zero, List.getElem_cons_succ, Act.put, List.setIfInBounds_toArray, List.set_cons_zero, List.set_cons_succ]
  refine sAny_take (i := 37) (v := .int .i64 (firstIdx (fun i => tk (f i)) n 0)) rfl (by kernel_rfl) (by kernel_rfl) (by kernel_rfl) (fixX_enter (by rfl) (fun W1 hl => C20.out W1 (hd.trans hl)) ?_) ?_
  · (intro W1 hl; go_simp <;> with_reducible rfl)
  simp only [List.getElem_toArray, List.getElem_cons_zero, List.getElem_cons_succ, Act.put, List.setIfInBounds_toArray, List.set_cons_zero, List.set_cons_succ]
  refine sAny_take (i := 38) (v := .bool true) rfl (by kernel_rfl) (by kernel_rfl) (by kernel_rfl) (fixX_value (by rfl) ?_) ?_
  · (intro W1 hl; go_simp <;> with_reducible rfl)
  simp only [List.getElem_toArray, List.getElem_cons_zero, List.getElem_cons_succ, Act.put, List.setIfInBounds_toArray, List.set_cons_zero, List.set_cons_succ]
  refine sAny_take (i := 39) (v := .bool true) rfl (by kernel_rfl) (by kernel_rfl) (by kernel_rfl) (fixX_value (by rfl) ?_) ?_
  · (intro W1 hl; go_simp <;> with_reducible rfl)
  simp only [List.getElem_toArray, List.getElem_cons_zero, List.getElem_cons_succ, Act.put, List.setIfInBounds_toArray, List.set_cons_zero, List.set_cons_succ]
  refine sAny_take (i := 40) (v := .bool true) rfl (by kernel_rfl) (by kernel_rfl) (by kernel_rfl) (fixX_value (by rfl) ?_) ?_
  · (intro W1 hl; go_simp <;> with_reducible rfl)
  simp only [List.getElem_toArray, List.getElem_cons_zero, List.getElem_cons_succ, Act.put, List.setIfInBounds_toArray, List.set_cons_zero, List.set_cons_succ]
  refine sAny_take (i := 41) (v := .pointer (some ⟨W.heap.size, 0, none⟩)) rfl (by kernel_rfl) (by kernel_rfl) (by kernel_rfl) (fixX_value (by rfl) ?_) ?_
  · (intro W1 hl; go_simp <;> with_reducible rfl)
  simp only [List.getElem_toArray, List.getElem_cons_zero, List.getElem_cons_succ, Act.put, List.setIfInBounds_toArray, List.set_cons_zero, List.set_cons_succ]
  refine sAny_take (i := 42) (v := .agg #[.string (mkS first.h), .string (mkS first.p), .int .u64 (first.c : Nat), .int .u64 (first.w : Nat), .int .u64 (first.f : Nat), .int .u64 (first.l : Nat)]) rfl (by kernel_rfl) (by kernel_rfl) (by kernel_rfl) (fixX_value (by rfl) ?_) ?_
  · (intro W1 hl; have hx := PB3.out.but (hd.trans hl) (by simp); have e0 : W1.cell? ⟨W.heap.size, 0, none⟩ = some (.string (mkS first.h)) := hx.cell 0 rfl; have e1 : W1.cell? ⟨W.heap.size, 1, none⟩ = some (.string (mkS first.p)) := hx.cell 1 rfl; have e2 : W1.cell? ⟨W.heap.size, 2, none⟩ = some (.int .u64 (first.c : Nat)) := hx.cell 2 rfl; have e3 : W1.cell? ⟨W.heap.size, 3, none⟩ = some (.int .u64 (first.w : Nat)) := hx.cell 3 rfl; have e4 : W1.cell? ⟨W.heap.size, 4, none⟩ = some (.int .u64 (first.f : Nat)) := hx.cell 4 rfl; have e5 : W1.cell? ⟨W.heap.size, 5, none⟩ = some (.int .u64 (first.l : Nat)) := hx.cell 5 rfl; have el := hx.lt; clear hx; go_simp <;> with_reducible rfl)
  simp only [List.getElem_toArray, List.getElem_cons_zero, List.getElem_cons_succ, Act.put, List.setIfInBounds_toArray, List.set_cons_zero, List.set_cons_succ]
  refine sAny_take (i := 43) (v := .pointer (some ⟨W.heap.size, 6, none⟩)) rfl (by kernel_rfl) (by kernel_rfl) (by kernel_rfl) (fixX_value (by rfl) ?_) ?_
  · (intro W1 hl; go_simp <;> with_reducible rfl)
  simp only [List.getElem_toArray, List.getElem_cons_zero, List.getElem_cons_succ, Act.put, List.setIfInBounds_toArray, List.set_cons_zero, List.set_cons_succ]
  refine sAny_take (i := 44) (v := .int .u64 (st : Nat)) rfl (by kernel_rfl) (by kernel_rfl) (by kernel_rfl) (fixX_value (by rfl) ?_) ?_
  · (intro W1 hl; have hx := PB3.out.but (hd.trans hl) (by simp); have e6 : W1.cell? ⟨W.heap.size, 6, none⟩ = some (.int .u64 (st : Nat)) := hx.cell 6 rfl; have el := hx.lt; clear hx; go_simp <;> with_reducible rfl)
  simp only [List.getElem_toArray, List.getElem_cons_zero, List.getElem_cons_succ, Act.put, List.setIfInBounds_toArray, List.set_cons_zero, List.set_cons_succ]
  refine sAny_take (i := 45) (v := .pointer (some ⟨W.heap.size, 8, none⟩)) rfl (by kernel_rfl) (by kernel_rfl) (by kernel_rfl) (fixX_value (by rfl) ?_) ?_
  · (intro W1 hl; go_simp <;> with_reducible rfl)
  simp only [List.getElem_toArray, List.getElem_cons_zero, List.getElem_cons_succ, Act.put, List.setIfInBounds_toArray, List.set_cons_zero, List.set_cons_succ]
  refine sAny_take (i := 46) (v := .slice A n c) rfl (by kernel_rfl) (by kernel_rfl) (by kernel_rfl) (fixX_value (by rfl) ?_) ?_
  · (intro W1 hl; have hx := PB3.out.but (hd.trans hl) (by simp); have e8 : W1.cell? ⟨W.heap.size, 8, none⟩ = some (.slice A n c) := hx.cell 8 rfl; have el := hx.lt; clear hx; go_simp <;> with_reducible rfl)
  simp only [List.getElem_toArray, List.getElem_cons_zero, List.getElem_cons_succ, Act.put, List.setIfInBounds_toArray, List.set_cons_zero, List.set_cons_succ]
  refine sAny_take (i := 47) (v := .int .i64 (firstIdx (badE first st f) n 0)) rfl (by kernel_rfl) (by kernel_rfl) (by kernel_rfl) (fixX_enter (by rfl) (fun W1 hl => C12.out W1 (hd.trans hl)) ?_) ?_
  · (intro W1 hl; go_simp <;> with_reducible rfl)
  simp only [List.getElem_toArray, List.getElem_cons_zero, List.getElem_cons_succ, Act.put, List.setIfInBounds_toArray, List.set_cons_zero, List.set_cons_succ]
  refine sAny_take (i := 48) (v := .pointer (some ⟨W.heap.size, 0, none⟩)) rfl (by kernel_rfl) (by kernel_rfl) (by kernel_rfl) (fixX_value (by rfl) ?_) ?_
  · (intro W1 hl; go_simp <;> with_reducible rfl)
  simp only [List.getElem_toArray, List.getElem_cons_zero, List.getElem_cons_succ, Act.put, List.setIfInBounds_toArray, List.set_cons_zero, List.set_cons_succ]
  refine sAny_take (i := 49) (v := .agg #[.string (mkS first.h), .string (mkS first.p), .int .u64 (first.c : Nat), .int .u64 (first.w : Nat), .int .u64 (first.f : Nat), .int .u64 (first.l : Nat)]) rfl (by kernel_rfl) (by kernel_rfl) (by kernel_rfl) (fixX_value (by rfl) ?_) ?_
  · (intro W1 hl; have hx := PB3.out.but (hd.trans hl) (by simp); have e0 : W1.cell? ⟨W.heap.size, 0, none⟩ = some (.string (mkS first.h)) := hx.cell 0 rfl; have e1 : W1.cell? ⟨W.heap.size, 1, none⟩ = some (.string (mkS first.p)) := hx.cell 1 rfl; have e2 : W1.cell? ⟨W.heap.size, 2, none⟩ = some (.int .u64 (first.c : Nat)) := hx.cell 2 rfl; have e3 : W1.cell? ⟨W.heap.size, 3, none⟩ = some (.int .u64 (first.w : Nat)) := hx.cell 3 rfl; have e4 : W1.cell? ⟨W.heap.size, 4, none⟩ = some (.int .u64 (first.f : Nat)) := hx.cell 4 rfl; have e5 : W1.cell? ⟨W.heap.size, 5, none⟩ = some (.int .u64 (first.l : Nat)) := hx.cell 5 rfl; have el := hx.lt; clear hx; go_simp <;> with_reducible rfl)
  simp only [List.getElem_toArray, List.getElem_cons_zero, List.getElem_cons_succ, Act.put, List.setIfInBounds_toArray, List.set_cons_zero, List.set_cons_succ]
  refine sAny_take (i := 50) (v := .pointer (some ⟨W.heap.size, 6, none⟩)) rfl (by kernel_rfl) (by kernel_rfl) (by kernel_rfl) (fixX_value (by rfl) ?_) ?_
  · (intro W1 hl; go_simp <;> with_reducible rfl)
  simp only [List.getElem_toArray, List.getElem_cons_zero, List.getElem_cons_succ, Act.put, List.setIfInBounds_toArray, List.set_cons_zero, List.set_cons_succ]
  refine sAny_take (i := 51) (v := .int .u64 (st : Nat)) rfl (by kernel_rfl) (by kernel_rfl) (by kernel_rfl) (fixX_value (by rfl) ?_) ?_
  · (intro W1 hl; have hx := PB3.out.but (hd.trans hl) (by simp); have e6 : W1.cell? ⟨W.heap.size, 6, none⟩ = some (.int .u64 (st : Nat)) := hx.cell 6 rfl; have el := hx.lt; clear hx; go_simp <;> with_reducible rfl)
  simp only [List.getElem_toArray, List.getElem_cons_zero, List.getElem_cons_succ, Act.put, List.setIfInBounds_toArray, List.set_cons_zero, List.set_cons_succ]
  refine sAny_take (i := 52) (v := .slice A2 n c2) rfl (by kernel_rfl) (by kernel_rfl) (by kernel_rfl) (fixX_value (by rfl) ?_) ?_
  · (intro W1 hl; go_simp <;> with_reducible rfl)
  simp only [List.getElem_toArray, List.getElem_cons_zero, List.getElem_cons_succ, Act.put, List.setIfInBounds_toArray, List.set_cons_zero, List.set_cons_succ]
  refine sAny_take (i := 53) (v := .int .i64 (firstIdx (badE first st f) n 0)) rfl (by kernel_rfl) (by kernel_rfl) (by kernel_rfl) (fixX_enter (by rfl) (fun W1 hl => C21.out W1 (hd.trans hl)) ?_) ?_
  · (intro W1 hl; go_simp <;> with_reducible rfl)
  simp only [List.getElem_toArray, List.getElem_cons_zero, List.getElem_cons_succ, Act.put, List.setIfInBounds_toArray, List.set_cons_zero, List.set_cons_succ]
  refine sAny_take (i := 54) (v := .bool true) rfl (by kernel_rfl) (by kernel_rfl) (by kernel_rfl) (fixX_value (by rfl) ?_) ?_
  · (intro W1 hl; go_simp <;> with_reducible rfl)
  simp only [List.getElem_toArray, List.getElem_cons_zero, List.getElem_cons_succ, Act.put, List.setIfInBounds_toArray, List.set_cons_zero, List.set_cons_succ]
  refine sAny_take (i := 55) (v := .bool true) rfl (by kernel_rfl) (by kernel_rfl) (by kernel_rfl) (fixX_value (by rfl) ?_) ?_
  · (intro W1 hl; go_simp <;> with_reducible rfl)
  simp only [List.getElem_toArray, List.getElem_cons_zero, List.getElem_cons_succ, Act.put, List.setIfInBounds_toArray, List.set_cons_zero, List.set_cons_succ]
  refine sAny_take (i := 56) (v := .bool true) rfl (by kernel_rfl) (by kernel_rfl) (by kernel_rfl) (fixX_value (by rfl) ?_) ?_
  · (intro W1 hl; go_simp <;> with_reducible rfl)
  simp only [List.getElem_toArray, List.getElem_cons_zero, List.getElem_cons_succ, Act.put, List.setIfInBounds_toArray, List.set_cons_zero, List.set_cons_succ]
  refine sAny_done (by kernel_rfl) ?_ _
  intro w4 hb4
  have BZ := Shut.mk (BW.out.trans (hd.trans hb4))
  clear hd hb4
  go_wp2_with fail
  go_ret
  exact ⟨rfl, BZ.out⟩
end Go.Proofs.YtcaimmhhklcpoaaGreatDoor
namespace Go.Proofs.YtcaimmhhklcpoaaGreatDoor
set_option linter.unusedVariables false
set_option linter.unusedSimpArgs false
set_option maxRecDepth 100000
open Go Go.RowKit
def lr0 (k c m : Int) : LR := ⟨k, [], [], [], none, 0, 0, [], 0, none, 0, 0, 0, c, m, ⟨[], [], 0, 0, 0, 0⟩, []⟩
def lm0 : LM := ⟨[], [], 0, 0, 0, 0⟩
theorem RowsV.none_ (W : World) (f : Nat → LR) : RowsV W none 0 f := ⟨by decide, fun h => absurd h (by decide)⟩
theorem RowsV.one {W : World} {g : Nat} {k c m : Int} (h : Blk W g (rowC (lr0 k c m)).toArray 31) : RowsV W (some ⟨g, 0, none⟩) 1 (fun _ => lr0 k c m) :=
  ⟨by decide, fun _ => ⟨g, rfl, h.lt, fun i hi j hj => by
    obtain rfl : i = 0 := by omega
    rw [Nat.zero_mul, Nat.zero_add]
    rcases hv : (rowC (lr0 k c m))[j]? with _ | v
    · have := List.getElem?_eq_none_iff.1 hv
      simp [rowC] at this
      omega
    · exact h.cell j (by simpa using hv)⟩⟩
theorem short0 (k c m : Int) : ShortR (fun _ => lr0 k c m) := fun _ => ⟨by show 0 ≤ 500; decide, by show 0 ≤ 500; decide⟩
theorem words0 (k c m : Int) : Words lm0 (fun _ => lr0 k c m) := fun i => by
  cases i <;> (show 0 < 18446744073709551616; decide)
structure EnvT (B : Nat) (W : World) : Prop where
  tabs : Tabs B W
  low : B ≤ W.heap.size
  err : ErrT W
theorem EnvT.but {B : Nat} {W W' : World} (h : EnvT B W) (hb : But [] W W') : EnvT B W' :=
  ⟨h.tabs.below (hb.below h.low (by simp)), Nat.le_trans h.low hb.size, h.err.but hb (by simp)⟩
section
variable (W : World)
theorem wk_agree (A : Option Addr) (n c : Nat) (f : Nat → LR) (z : Int) (hR : RowsV W A n f) (hz : firstIdx (fun i => !agr (f i)) n 0 = z) : Calls Tryz.prog 7 #[.slice A n c] W fun e w' => e = .returned (.int .i64 z) ∧ But [] W w' := by
  rw [← hz]; exact agree_any A n c f W hR
theorem wk_truth (A : Option Addr) (n c : Nat) (f : Nat → LR) (z : Int) (hR : RowsV W A n f) (hz : firstIdx (fun i => badT (f i)) n 0 = z) : Calls Tryz.prog 13 #[.slice A n c, .slice none 0 0] W fun e w' => e = .returned (.int .i64 z) ∧ But [] W w' := by
  rw [← hz]; exact truth_any A n c f W hR
theorem wk_reveals {B : Nat} (h : EnvT B W) (A : Option Addr) (n c : Nat) (f : Nat → LR) (z : Int) (hR : RowsV W A n f) (hS : ShortR f) (hz : firstIdx (fun i => tk (f i)) n 0 = z) : Calls Tryz.prog 14 #[.slice A n c, .slice none 0 0] W fun e w' => e = .returned (.int .i64 z) ∧ But [] W w' := by
  rw [← hz]; exact reveals_any B A n c f W hR hS h.tabs h.low h.err
theorem wk_rises {B : Nat} (h : EnvT B W) (A : Option Addr) (n c : Nat) (f : Nat → LR) (z : Int) (hR : RowsV W A n f) (hS : ShortR f) (hz : firstIdx (badR lm0 f) n 0 = z) : Calls Tryz.prog 11 #[.agg #[.string ⟨#[]⟩, .string ⟨#[]⟩, .int .u64 0, .int .u64 0, .int .u64 0, .int .u64 0], .slice A n c] W fun e w' => e = .returned (.int .i64 z) ∧ But [] W w' := by
  rw [← hz]; exact rises_any B lm0 A n c f W hR hS h.tabs h.low h.err
theorem wk_enough {B : Nat} (h : EnvT B W) (A : Option Addr) (n c : Nat) (f : Nat → LR) (z : Int) (hR : RowsV W A n f) (hS : ShortR f) (hw : Words lm0 f) (hz : firstIdx (badE lm0 1 f) n 0 = z) : Calls Tryz.prog 12 #[.agg #[.string ⟨#[]⟩, .string ⟨#[]⟩, .int .u64 0, .int .u64 0, .int .u64 0, .int .u64 0], .int .u64 1, .slice A n c] W fun e w' => e = .returned (.int .i64 z) ∧ But [] W w' := by
  rw [← hz]; exact enough_any B lm0 1 A n c f W hR hS hw h.tabs h.low h.err
end
set_option maxHeartbeats 16000000 in
theorem works_any (B : Nat) (W : World) (h : EnvT B W) : Calls Tryz.prog 6 #[] W fun e w' => e = .returned (.bool true) ∧ But [] W w' := by
  have E0 := Shut.mk h
  clear h
  go_enter Tryz.func6, Tryz.ntmps6
  go_wp2_with fail
  refine (wk_agree W none 0 0 (fun _ => lr0 0 0 0) (-1) (RowsV.none_ _ _) rfl).mono ?_
  rintro e w1 ⟨rfl, hb⟩
  have E1 := Shut.mk (E0.out.but hb)
  have HB := Shut.mk (hb)
  clear hb
  go_wp2_with fail
  refine (wk_rises w1 E1.out none 0 0 (fun _ => lr0 0 0 0) (-1) (RowsV.none_ _ _) (short0 _ _ _) rfl).mono ?_
  rintro e w2 ⟨rfl, hb⟩
  have E2 := Shut.mk (E1.out.but hb)
  have HB := Shut.mk (HB.out.trans hb)
  clear hb
  go_wp2_with fail
  refine (wk_truth w2 none 0 0 (fun _ => lr0 0 0 0) (-1) (RowsV.none_ _ _) rfl).mono ?_
  rintro e w3 ⟨rfl, hb⟩
  have E3 := Shut.mk (E2.out.but hb)
  have HB := Shut.mk (HB.out.trans hb)
  clear hb
  go_wp2_with fail
  refine (wk_reveals w3 E3.out none 0 0 (fun _ => lr0 0 0 0) (-1) (RowsV.none_ _ _) (short0 _ _ _) rfl).mono ?_
  rintro e w4 ⟨rfl, hb⟩
  have E4 := Shut.mk (E3.out.but hb)
  have HB := Shut.mk (HB.out.trans hb)
  clear hb
  go_wp2_with fail
  refine (wk_enough w4 E4.out none 0 0 (fun _ => lr0 0 0 0) (-1) (RowsV.none_ _ _) (short0 _ _ _) (words0 _ _ _) rfl).mono ?_
  rintro e w5 ⟨rfl, hb⟩
  have E5 := Shut.mk (E4.out.but hb)
  have HB := Shut.mk (HB.out.trans hb)
  clear hb
  obtain ⟨v5, hv5⟩ : ∃ v5, v5 = (((((w5.alloc (.cells #[.int .i64 1, .string ⟨#[]⟩, .string ⟨#[]⟩, .string ⟨#[]⟩, .slice none 0 0, .string ⟨#[]⟩, .int .u64 0, .slice none 0 0, .int .u64 0, .int .i64 0, .int .i64 20, .string ⟨#[]⟩, .string ⟨#[]⟩, .int .u64 0, .int .u64 0, .int .u64 0, .int .u64 0, .string ⟨#[]⟩] 31)).alloc (.cells #[.int .i64 1, .string ⟨#[]⟩, .string ⟨#[]⟩, .string ⟨#[]⟩, .slice none 0 0, .string ⟨#[]⟩, .int .u64 0, .slice none 0 0, .int .u64 0, .int .i64 20, .int .i64 0, .string ⟨#[]⟩, .string ⟨#[]⟩, .int .u64 0, .int .u64 0, .int .u64 0, .int .u64 0, .string ⟨#[]⟩] 31)).alloc (.cells #[.int .i64 1, .string ⟨#[]⟩, .string ⟨#[]⟩, .string ⟨#[]⟩, .slice none 0 0, .string ⟨#[]⟩, .int .u64 0, .slice none 0 0, .int .u64 0, .int .i64 16, .int .i64 0, .string ⟨#[]⟩, .string ⟨#[]⟩, .int .u64 0, .int .u64 0, .int .u64 0, .int .u64 0, .string ⟨#[]⟩] 31)).alloc (.cells #[.int .i64 0, .string ⟨#[]⟩, .string ⟨#[]⟩, .string ⟨#[]⟩, .slice none 0 0, .string ⟨#[]⟩, .int .u64 0, .slice none 0 0, .int .u64 0, .int .i64 0, .int .i64 0, .string ⟨#[]⟩, .string ⟨#[]⟩, .int .u64 0, .int .u64 0, .int .u64 0, .int .u64 0, .string ⟨#[]⟩] 31)).alloc (.cells #[.int .i64 1, .string ⟨#[]⟩, .string ⟨#[]⟩, .string ⟨#[]⟩, .slice none 0 0, .string ⟨#[]⟩, .int .u64 0, .slice none 0 0, .int .u64 0, .int .i64 0, .int .i64 2, .string ⟨#[]⟩, .string ⟨#[]⟩, .int .u64 0, .int .u64 0, .int .u64 0, .int .u64 0, .string ⟨#[]⟩] 31)) := ⟨_, rfl⟩
  have X0 : Shut (Blk v5 (w5.heap.size) (rowC (lr0 1 0 20)).toArray 31) := ⟨by
    rw [hv5]
    have := Blk.new w5 #[.int .i64 1, .string ⟨#[]⟩, .string ⟨#[]⟩, .string ⟨#[]⟩, .slice none 0 0, .string ⟨#[]⟩, .int .u64 0, .slice none 0 0, .int .u64 0, .int .i64 0, .int .i64 20, .string ⟨#[]⟩, .string ⟨#[]⟩, .int .u64 0, .int .u64 0, .int .u64 0, .int .u64 0, .string ⟨#[]⟩] 31
    try simp only [World.size_alloc] at this
    exact ((((this.alloc _).alloc _).alloc _).alloc _)⟩
  have X1 : Shut (Blk v5 (w5.heap.size + 1) (rowC (lr0 1 20 0)).toArray 31) := ⟨by
    rw [hv5]
    have := Blk.new (w5.alloc (.cells #[.int .i64 1, .string ⟨#[]⟩, .string ⟨#[]⟩, .string ⟨#[]⟩, .slice none 0 0, .string ⟨#[]⟩, .int .u64 0, .slice none 0 0, .int .u64 0, .int .i64 0, .int .i64 20, .string ⟨#[]⟩, .string ⟨#[]⟩, .int .u64 0, .int .u64 0, .int .u64 0, .int .u64 0, .string ⟨#[]⟩] 31)) #[.int .i64 1, .string ⟨#[]⟩, .string ⟨#[]⟩, .string ⟨#[]⟩, .slice none 0 0, .string ⟨#[]⟩, .int .u64 0, .slice none 0 0, .int .u64 0, .int .i64 20, .int .i64 0, .string ⟨#[]⟩, .string ⟨#[]⟩, .int .u64 0, .int .u64 0, .int .u64 0, .int .u64 0, .string ⟨#[]⟩] 31
    try simp only [World.size_alloc] at this
    exact (((this.alloc _).alloc _).alloc _)⟩
  have X2 : Shut (Blk v5 (w5.heap.size + 1 + 1) (rowC (lr0 1 16 0)).toArray 31) := ⟨by
    rw [hv5]
    have := Blk.new ((w5.alloc (.cells #[.int .i64 1, .string ⟨#[]⟩, .string ⟨#[]⟩, .string ⟨#[]⟩, .slice none 0 0, .string ⟨#[]⟩, .int .u64 0, .slice none 0 0, .int .u64 0, .int .i64 0, .int .i64 20, .string ⟨#[]⟩, .string ⟨#[]⟩, .int .u64 0, .int .u64 0, .int .u64 0, .int .u64 0, .string ⟨#[]⟩] 31)).alloc (.cells #[.int .i64 1, .string ⟨#[]⟩, .string ⟨#[]⟩, .string ⟨#[]⟩, .slice none 0 0, .string ⟨#[]⟩, .int .u64 0, .slice none 0 0, .int .u64 0, .int .i64 20, .int .i64 0, .string ⟨#[]⟩, .string ⟨#[]⟩, .int .u64 0, .int .u64 0, .int .u64 0, .int .u64 0, .string ⟨#[]⟩] 31)) #[.int .i64 1, .string ⟨#[]⟩, .string ⟨#[]⟩, .string ⟨#[]⟩, .slice none 0 0, .string ⟨#[]⟩, .int .u64 0, .slice none 0 0, .int .u64 0, .int .i64 16, .int .i64 0, .string ⟨#[]⟩, .string ⟨#[]⟩, .int .u64 0, .int .u64 0, .int .u64 0, .int .u64 0, .string ⟨#[]⟩] 31
    try simp only [World.size_alloc] at this
    exact ((this.alloc _).alloc _)⟩
  have X3 : Shut (Blk v5 (w5.heap.size + 1 + 1 + 1) (rowC (lr0 0 0 0)).toArray 31) := ⟨by
    rw [hv5]
    have := Blk.new (((w5.alloc (.cells #[.int .i64 1, .string ⟨#[]⟩, .string ⟨#[]⟩, .string ⟨#[]⟩, .slice none 0 0, .string ⟨#[]⟩, .int .u64 0, .slice none 0 0, .int .u64 0, .int .i64 0, .int .i64 20, .string ⟨#[]⟩, .string ⟨#[]⟩, .int .u64 0, .int .u64 0, .int .u64 0, .int .u64 0, .string ⟨#[]⟩] 31)).alloc (.cells #[.int .i64 1, .string ⟨#[]⟩, .string ⟨#[]⟩, .string ⟨#[]⟩, .slice none 0 0, .string ⟨#[]⟩, .int .u64 0, .slice none 0 0, .int .u64 0, .int .i64 20, .int .i64 0, .string ⟨#[]⟩, .string ⟨#[]⟩, .int .u64 0, .int .u64 0, .int .u64 0, .int .u64 0, .string ⟨#[]⟩] 31)).alloc (.cells #[.int .i64 1, .string ⟨#[]⟩, .string ⟨#[]⟩, .string ⟨#[]⟩, .slice none 0 0, .string ⟨#[]⟩, .int .u64 0, .slice none 0 0, .int .u64 0, .int .i64 16, .int .i64 0, .string ⟨#[]⟩, .string ⟨#[]⟩, .int .u64 0, .int .u64 0, .int .u64 0, .int .u64 0, .string ⟨#[]⟩] 31)) #[.int .i64 0, .string ⟨#[]⟩, .string ⟨#[]⟩, .string ⟨#[]⟩, .slice none 0 0, .string ⟨#[]⟩, .int .u64 0, .slice none 0 0, .int .u64 0, .int .i64 0, .int .i64 0, .string ⟨#[]⟩, .string ⟨#[]⟩, .int .u64 0, .int .u64 0, .int .u64 0, .int .u64 0, .string ⟨#[]⟩] 31
    try simp only [World.size_alloc] at this
    exact (this.alloc _)⟩
  have X4 : Shut (Blk v5 (w5.heap.size + 1 + 1 + 1 + 1) (rowC (lr0 1 0 2)).toArray 31) := ⟨by
    rw [hv5]
    have := Blk.new ((((w5.alloc (.cells #[.int .i64 1, .string ⟨#[]⟩, .string ⟨#[]⟩, .string ⟨#[]⟩, .slice none 0 0, .string ⟨#[]⟩, .int .u64 0, .slice none 0 0, .int .u64 0, .int .i64 0, .int .i64 20, .string ⟨#[]⟩, .string ⟨#[]⟩, .int .u64 0, .int .u64 0, .int .u64 0, .int .u64 0, .string ⟨#[]⟩] 31)).alloc (.cells #[.int .i64 1, .string ⟨#[]⟩, .string ⟨#[]⟩, .string ⟨#[]⟩, .slice none 0 0, .string ⟨#[]⟩, .int .u64 0, .slice none 0 0, .int .u64 0, .int .i64 20, .int .i64 0, .string ⟨#[]⟩, .string ⟨#[]⟩, .int .u64 0, .int .u64 0, .int .u64 0, .int .u64 0, .string ⟨#[]⟩] 31)).alloc (.cells #[.int .i64 1, .string ⟨#[]⟩, .string ⟨#[]⟩, .string ⟨#[]⟩, .slice none 0 0, .string ⟨#[]⟩, .int .u64 0, .slice none 0 0, .int .u64 0, .int .i64 16, .int .i64 0, .string ⟨#[]⟩, .string ⟨#[]⟩, .int .u64 0, .int .u64 0, .int .u64 0, .int .u64 0, .string ⟨#[]⟩] 31)).alloc (.cells #[.int .i64 0, .string ⟨#[]⟩, .string ⟨#[]⟩, .string ⟨#[]⟩, .slice none 0 0, .string ⟨#[]⟩, .int .u64 0, .slice none 0 0, .int .u64 0, .int .i64 0, .int .i64 0, .string ⟨#[]⟩, .string ⟨#[]⟩, .int .u64 0, .int .u64 0, .int .u64 0, .int .u64 0, .string ⟨#[]⟩] 31)) #[.int .i64 1, .string ⟨#[]⟩, .string ⟨#[]⟩, .string ⟨#[]⟩, .slice none 0 0, .string ⟨#[]⟩, .int .u64 0, .slice none 0 0, .int .u64 0, .int .i64 0, .int .i64 2, .string ⟨#[]⟩, .string ⟨#[]⟩, .int .u64 0, .int .u64 0, .int .u64 0, .int .u64 0, .string ⟨#[]⟩] 31
    try simp only [World.size_alloc] at this
    exact this⟩
  have BV : Shut (But [] w5 v5) := ⟨by rw [hv5]; exact (((((But.refl [] w5).alloc _).alloc _).alloc _).alloc _).alloc _⟩
  have HV := Shut.mk hv5
  clear hv5
  have HB := Shut.mk (HB.out.trans BV.out)
  have E5 := Shut.mk (E5.out.but BV.out)
  go_wp2_with fail
  rw [← HV.out]
  refine (wk_agree v5 (some ⟨w5.heap.size, 0, none⟩) 1 1 (fun _ => lr0 1 0 20) (-1) (RowsV.one X0.out) rfl).mono ?_
  rintro e w6 ⟨rfl, hb⟩
  have E6 := Shut.mk (E5.out.but hb)
  have X0 := Shut.mk (X0.out.but hb (by simp))
  have X1 := Shut.mk (X1.out.but hb (by simp))
  have X2 := Shut.mk (X2.out.but hb (by simp))
  have X3 := Shut.mk (X3.out.but hb (by simp))
  have X4 := Shut.mk (X4.out.but hb (by simp))
  have HB := Shut.mk (HB.out.trans hb)
  clear hb
  go_wp2_with fail
  refine (wk_agree w6 (some ⟨w5.heap.size + 1 + 1 + 1 + 1, 0, none⟩) 1 1 (fun _ => lr0 1 0 2) (0) (RowsV.one X4.out) rfl).mono ?_
  rintro e w7 ⟨rfl, hb⟩
  have E7 := Shut.mk (E6.out.but hb)
  have X0 := Shut.mk (X0.out.but hb (by simp))
  have X1 := Shut.mk (X1.out.but hb (by simp))
  have X2 := Shut.mk (X2.out.but hb (by simp))
  have X3 := Shut.mk (X3.out.but hb (by simp))
  have X4 := Shut.mk (X4.out.but hb (by simp))
  have HB := Shut.mk (HB.out.trans hb)
  clear hb
  go_wp2_with fail
  refine (wk_agree w7 (some ⟨w5.heap.size + 1, 0, none⟩) 1 1 (fun _ => lr0 1 20 0) (-1) (RowsV.one X1.out) rfl).mono ?_
  rintro e w8 ⟨rfl, hb⟩
  have E8 := Shut.mk (E7.out.but hb)
  have X0 := Shut.mk (X0.out.but hb (by simp))
  have X1 := Shut.mk (X1.out.but hb (by simp))
  have X2 := Shut.mk (X2.out.but hb (by simp))
  have X3 := Shut.mk (X3.out.but hb (by simp))
  have X4 := Shut.mk (X4.out.but hb (by simp))
  have HB := Shut.mk (HB.out.trans hb)
  clear hb
  go_wp2_with fail
  refine (wk_agree w8 (some ⟨w5.heap.size + 1 + 1, 0, none⟩) 1 1 (fun _ => lr0 1 16 0) (0) (RowsV.one X2.out) rfl).mono ?_
  rintro e w9 ⟨rfl, hb⟩
  have E9 := Shut.mk (E8.out.but hb)
  have X0 := Shut.mk (X0.out.but hb (by simp))
  have X1 := Shut.mk (X1.out.but hb (by simp))
  have X2 := Shut.mk (X2.out.but hb (by simp))
  have X3 := Shut.mk (X3.out.but hb (by simp))
  have X4 := Shut.mk (X4.out.but hb (by simp))
  have HB := Shut.mk (HB.out.trans hb)
  clear hb
  go_wp2_with fail
  refine (wk_rises w9 E9.out (some ⟨w5.heap.size + 1 + 1 + 1, 0, none⟩) 1 1 (fun _ => lr0 0 0 0) (0) (RowsV.one X3.out) (short0 _ _ _) rfl).mono ?_
  rintro e w10 ⟨rfl, hb⟩
  have E10 := Shut.mk (E9.out.but hb)
  have X0 := Shut.mk (X0.out.but hb (by simp))
  have X1 := Shut.mk (X1.out.but hb (by simp))
  have X2 := Shut.mk (X2.out.but hb (by simp))
  have X3 := Shut.mk (X3.out.but hb (by simp))
  have X4 := Shut.mk (X4.out.but hb (by simp))
  have HB := Shut.mk (HB.out.trans hb)
  clear hb
  go_wp2_with fail
  refine (wk_truth w10 (some ⟨w5.heap.size + 1 + 1 + 1, 0, none⟩) 1 1 (fun _ => lr0 0 0 0) (0) (RowsV.one X3.out) rfl).mono ?_
  rintro e w11 ⟨rfl, hb⟩
  have E11 := Shut.mk (E10.out.but hb)
  have X0 := Shut.mk (X0.out.but hb (by simp))
  have X1 := Shut.mk (X1.out.but hb (by simp))
  have X2 := Shut.mk (X2.out.but hb (by simp))
  have X3 := Shut.mk (X3.out.but hb (by simp))
  have X4 := Shut.mk (X4.out.but hb (by simp))
  have HB := Shut.mk (HB.out.trans hb)
  clear hb
  go_wp2_with fail
  refine (wk_reveals w11 E11.out (some ⟨w5.heap.size + 1 + 1 + 1, 0, none⟩) 1 1 (fun _ => lr0 0 0 0) (0) (RowsV.one X3.out) (short0 _ _ _) rfl).mono ?_
  rintro e w12 ⟨rfl, hb⟩
  have E12 := Shut.mk (E11.out.but hb)
  have X0 := Shut.mk (X0.out.but hb (by simp))
  have X1 := Shut.mk (X1.out.but hb (by simp))
  have X2 := Shut.mk (X2.out.but hb (by simp))
  have X3 := Shut.mk (X3.out.but hb (by simp))
  have X4 := Shut.mk (X4.out.but hb (by simp))
  have HB := Shut.mk (HB.out.trans hb)
  clear hb
  go_wp2_with fail
  refine (wk_enough w12 E12.out (some ⟨w5.heap.size + 1 + 1 + 1, 0, none⟩) 1 1 (fun _ => lr0 0 0 0) (0) (RowsV.one X3.out) (short0 _ _ _) (words0 _ _ _) rfl).mono ?_
  rintro e w13 ⟨rfl, hb⟩
  have E13 := Shut.mk (E12.out.but hb)
  have X0 := Shut.mk (X0.out.but hb (by simp))
  have X1 := Shut.mk (X1.out.but hb (by simp))
  have X2 := Shut.mk (X2.out.but hb (by simp))
  have X3 := Shut.mk (X3.out.but hb (by simp))
  have X4 := Shut.mk (X4.out.but hb (by simp))
  have HB := Shut.mk (HB.out.trans hb)
  clear hb
  go_wp2_with fail
  go_ret
  exact ⟨rfl, HB.out⟩
end Go.Proofs.YtcaimmhhklcpoaaGreatDoor
