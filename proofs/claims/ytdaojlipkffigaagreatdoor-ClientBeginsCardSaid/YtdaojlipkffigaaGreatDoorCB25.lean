/- IJ, JD, IK, KA, KB, KC: merged by merge.py. -/
import Derived.Test.YtdaojlipkffigaaGreatDoorCB05
import Derived.Test.YtdaojlipkffigaaGreatDoorCB24
import Derived.Test.YtdaojlipkffigaaGreatDoorCB10
import Derived.Test.YtdaojlipkffigaaGreatDoorCB15
import Derived.Laws.EntriesVeiled
namespace Go.Proofs.YtdaojlipkffigaaGreatDoor
set_option linter.unusedVariables false
set_option linter.unusedSimpArgs false
set_option maxRecDepth 100000
open Go Go.RowKit
theorem sub1_bad (be bm p : Nat) (W : World) (he : W.cell? ⟨be, 0, none⟩ = some (.iface 243 (.pointer (some ⟨p, 0, none⟩)))) (hl : be < W.heap.size) :
    Calls Tryz.prog 35 #[.pointer (some ⟨be, 0, none⟩), .pointer (some ⟨bm, 0, none⟩)] W fun r w' => r = .returned (.int .i64 18) ∧ But [] W w' := by
  have U := Shut.mk (unless_no 18)
  have B0 := Shut.mk (But.refl [] W)
  go_enter Tryz.func35, Tryz.ntmps35
  go_wp2_with fail
  refine (U.out _).mono ?_
  rintro r w2 ⟨rfl, hw2⟩
  rw [hw2]
  clear hw2 w2
  go_wp2_with fail
  go_ret
  exact ⟨rfl, B0.out⟩
theorem sub1_may (be bm : Nat) (m : LM) (B : Nat) (W : World) (hT : PackT B W) (hB : B ≤ W.heap.size) (hm : m.ok) (he : W.cell? ⟨be, 0, none⟩ = some .nilIface) (hl : be < W.heap.size) (hx : Blk W bm (mCells m) 24) :
    Calls Tryz.prog 35 #[.pointer (some ⟨be, 0, none⟩), .pointer (some ⟨bm, 0, none⟩)] W fun r w' => r = .returned (.int .i64 (if mayB m = true then 0 else 18)) ∧ But [] W w' := by
  have U := Shut.mk (unless_no 18)
  have V := Shut.mk (unless_yes 18)
  have E := Shut.mk (may_any m B W hT hB hm)
  have HX := hx.lt
  obtain ⟨h, p, c, w, f, l⟩ := m
  simp only [msgAgg] at E
  have c0 : W.cell? ⟨bm, 0, none⟩ = some (.string (mkS h)) := hx.cell 0 rfl
  have c1 : W.cell? ⟨bm, 1, none⟩ = some (.string (mkS p)) := hx.cell 1 rfl
  have c2 : W.cell? ⟨bm, 2, none⟩ = some (.int .u64 (c : Nat)) := hx.cell 2 rfl
  have c3 : W.cell? ⟨bm, 3, none⟩ = some (.int .u64 (w : Nat)) := hx.cell 3 rfl
  have c4 : W.cell? ⟨bm, 4, none⟩ = some (.int .u64 (f : Nat)) := hx.cell 4 rfl
  have c5 : W.cell? ⟨bm, 5, none⟩ = some (.int .u64 (l : Nat)) := hx.cell 5 rfl
  clear hx hT hB hm
  generalize mayB ⟨h, p, c, w, f, l⟩ = d at *
  go_enter Tryz.func35, Tryz.ntmps35
  go_wp2_with fail
  refine E.out.mono ?_
  rintro r w1 ⟨rfl, hb⟩
  have B1 := Shut.mk hb
  clear hb E c0 c1 c2 c3 c4 c5 he hl HX
  cases d
  · go_wp2_with fail
    refine (U.out _).mono ?_
    rintro r w2 ⟨rfl, hw2⟩
    rw [hw2]
    clear hw2 w2
    go_wp2_with fail
    go_ret
    exact ⟨rfl, B1.out⟩
  · go_wp2_with fail
    refine (V.out _).mono ?_
    rintro r w2 ⟨rfl, hw2⟩
    rw [hw2]
    clear hw2 w2
    go_wp2_with fail
    go_ret
    exact ⟨rfl, B1.out⟩
theorem sub2_any (m mc : LM) (bm bc g gw s : Nat) (a : Int) (d : Bool) (W : World) (hx : Blk W bm (mCells m) 24) (hc : Blk W bc #[.pointer (some ⟨g, 0, none⟩)] 26) (hC : Blk W g (pC mc gw s a) 60) (hl : mc.l < 18446744073709551615)
    (hd : decide (m.f = mc.l + 1) = d) :
    Calls Tryz.prog 37 #[.pointer (some ⟨bm, 0, none⟩), .pointer (some ⟨bc, 0, none⟩)] W fun r w' => r = .returned (.int .i64 (if d = true then 0 else 17)) ∧ But [] W w' := by
  have U := Shut.mk (unless_no 17)
  have V := Shut.mk (unless_yes 17)
  have NX := Shut.mk (fun W1 (h : Later W W1) => pnext_any mc g gw s a W1 (hC.later h) hl)
  have CE : Shut (∀ W1, Later W W1 → W1.cell? ⟨bm, 4, none⟩ = some (.int .u64 (m.f : Nat)) ∧ W1.cell? ⟨bc, 0, none⟩ = some (.pointer (some ⟨g, 0, none⟩))) := ⟨fun W1 h => ⟨(hx.later h).cell 4 rfl, (hc.later h).cell 0 rfl⟩⟩
  have L0 : Shut (Later W W.drew) := ⟨(Below.refl _ _).drew⟩
  have B0 := Shut.mk ((But.refl [] W).drew)
  clear hx hc hC hl
  generalize mc.l + 1 = j at *
  generalize m.f = f at *
  have hq : ((f : Int) == (j : Int)) = d := by rw [← hd, Bool.eq_iff_iff, beq_iff_eq, decide_eq_true_iff]; omega
  clear hd
  go_enter Tryz.func37, Tryz.ntmps37
  go_wp2_with fail
  refine wp_region_later (by kernel_rfl) [] ?_
  refine wpAnyB_take (i := 0) (v := ?_) rfl (by kernel_rfl) (by kernel_rfl) (by kernel_rfl) (fun _ _ _ h => h) (by kernel_rfl) (fix_value (by rfl) ?_) ?_
  rotate_left
  · (intro W1 hl; go_simp <;> with_reducible rfl)
  try simp only [List.getElem_toArray, List.getElem_cons_zero, List.getElem_cons_succ, Act.put, List.setIfInBounds_toArray, List.set_cons_zero, List.set_cons_succ]
  refine wpAnyB_take (i := 1) (v := ?_) rfl (by kernel_rfl) (by kernel_rfl) (by kernel_rfl) (fun _ _ _ h => h) (by kernel_rfl) (fix_value (by rfl) ?_) ?_
  rotate_left
  · (intro W1 hl; obtain ⟨q0, q1⟩ := CE.out W1 (L0.out.trans hl); go_simp <;> with_reducible rfl)
  try simp only [List.getElem_toArray, List.getElem_cons_zero, List.getElem_cons_succ, Act.put, List.setIfInBounds_toArray, List.set_cons_zero, List.set_cons_succ]
  refine wpAnyB_take (i := 2) (v := ?_) rfl (by kernel_rfl) (by kernel_rfl) (by kernel_rfl) (fun _ _ _ h => h) (by kernel_rfl) (fix_value (by rfl) ?_) ?_
  rotate_left
  · (intro W1 hl; obtain ⟨q0, q1⟩ := CE.out W1 (L0.out.trans hl); go_simp <;> with_reducible rfl)
  try simp only [List.getElem_toArray, List.getElem_cons_zero, List.getElem_cons_succ, Act.put, List.setIfInBounds_toArray, List.set_cons_zero, List.set_cons_succ]
  refine wpAnyB_take (i := 3) (v := _) rfl (by kernel_rfl) (by kernel_rfl) (by kernel_rfl) (fun _ _ _ h => h) (by kernel_rfl) (fix_enter (by rfl) (fun W1 hl => (NX.out W1 (L0.out.trans hl)).mono (by rintro e w' ⟨rfl, rfl⟩; exact ⟨rfl, Later.refl _⟩)) ?_) ?_
  · (intro W1 hl; go_simp <;> with_reducible rfl)
  try simp only [List.getElem_toArray, List.getElem_cons_zero, List.getElem_cons_succ, Act.put, List.setIfInBounds_toArray, List.set_cons_zero, List.set_cons_succ]
  cases d
  · skip
    refine wpAnyB_take (i := 4) (v := ?_) rfl (by kernel_rfl) (by kernel_rfl) (by kernel_rfl) (fun _ _ _ h => h) (by kernel_rfl) (fix_value (by rfl) ?_) ?_
    rotate_left
    · (intro W1 hl; go_simp <;> with_reducible rfl)
    try simp only [List.getElem_toArray, List.getElem_cons_zero, List.getElem_cons_succ, Act.put, List.setIfInBounds_toArray, List.set_cons_zero, List.set_cons_succ]
    refine wpAnyB_take (i := 5) (v := _) rfl (by kernel_rfl) (by kernel_rfl) (by kernel_rfl) (fun _ _ _ h => h) (by kernel_rfl) (fix_enter (by rfl) (fun W1 hl => (U.out W1).mono (by rintro e w' ⟨rfl, rfl⟩; exact ⟨rfl, Later.refl _⟩)) ?_) ?_
    · (intro W1 hl; go_simp <;> with_reducible rfl)
    try simp only [List.getElem_toArray, List.getElem_cons_zero, List.getElem_cons_succ, Act.put, List.setIfInBounds_toArray, List.set_cons_zero, List.set_cons_succ]
    refine wpAnyB_take (i := 6) (v := ?_) rfl (by kernel_rfl) (by kernel_rfl) (by kernel_rfl) (fun _ _ _ h => h) (by kernel_rfl) (fix_value (by rfl) ?_) ?_
    rotate_left
    · (intro W1 hl; go_simp <;> with_reducible rfl)
    try simp only [List.getElem_toArray, List.getElem_cons_zero, List.getElem_cons_succ, Act.put, List.setIfInBounds_toArray, List.set_cons_zero, List.set_cons_succ]
    refine wpAnyB_done (by kernel_rfl) (fun w2 hl4 => ?_) _
    try simp only [List.getElem_toArray, List.getElem_cons_zero, List.getElem_cons_succ, Act.put, List.setIfInBounds_toArray, List.set_cons_zero, List.set_cons_succ]
    have HL2 := Shut.mk (B0.out.trans (But.ofBelow hl4))
    clear hl4 CE NX
    go_wp2_with fail
    go_ret
    exact ⟨rfl, HL2.out⟩
  · skip
    refine wpAnyB_take (i := 4) (v := ?_) rfl (by kernel_rfl) (by kernel_rfl) (by kernel_rfl) (fun _ _ _ h => h) (by kernel_rfl) (fix_value (by rfl) ?_) ?_
    rotate_left
    · (intro W1 hl; go_simp <;> with_reducible rfl)
    try simp only [List.getElem_toArray, List.getElem_cons_zero, List.getElem_cons_succ, Act.put, List.setIfInBounds_toArray, List.set_cons_zero, List.set_cons_succ]
    refine wpAnyB_take (i := 5) (v := _) rfl (by kernel_rfl) (by kernel_rfl) (by kernel_rfl) (fun _ _ _ h => h) (by kernel_rfl) (fix_enter (by rfl) (fun W1 hl => (V.out W1).mono (by rintro e w' ⟨rfl, rfl⟩; exact ⟨rfl, Later.refl _⟩)) ?_) ?_
    · (intro W1 hl; go_simp <;> with_reducible rfl)
    try simp only [List.getElem_toArray, List.getElem_cons_zero, List.getElem_cons_succ, Act.put, List.setIfInBounds_toArray, List.set_cons_zero, List.set_cons_succ]
    refine wpAnyB_take (i := 6) (v := ?_) rfl (by kernel_rfl) (by kernel_rfl) (by kernel_rfl) (fun _ _ _ h => h) (by kernel_rfl) (fix_value (by rfl) ?_) ?_
    rotate_left
    · (intro W1 hl; go_simp <;> with_reducible rfl)
    try simp only [List.getElem_toArray, List.getElem_cons_zero, List.getElem_cons_succ, Act.put, List.setIfInBounds_toArray, List.set_cons_zero, List.set_cons_succ]
    refine wpAnyB_done (by kernel_rfl) (fun w2 hl4 => ?_) _
    try simp only [List.getElem_toArray, List.getElem_cons_zero, List.getElem_cons_succ, Act.put, List.setIfInBounds_toArray, List.set_cons_zero, List.set_cons_succ]
    have HL2 := Shut.mk (B0.out.trans (But.ofBelow hl4))
    clear hl4 CE NX
    go_wp2_with fail
    go_ret
    exact ⟨rfl, HL2.out⟩
end Go.Proofs.YtdaojlipkffigaaGreatDoor
namespace Go.Proofs.YtdaojlipkffigaaGreatDoor
set_option linter.unusedVariables false
set_option maxRecDepth 100000
open Go Go.RowKit
def lmOf (rs : List (Nat × Rd1)) : LM := ⟨txtAt rs 1, txtAt rs 4, numAt rs 3, numAt rs 5, numAt rs 0, numAt rs 2⟩
def mW : LM := ⟨List.replicate 32 104, List.replicate 32 112, 1, 1, 1, 2⟩
theorem rd_nil : msgOf [] = none := by kernel_rfl
theorem rd_mW : (msgOf (wholeB (msgKv mW))).map lmOf = some mW := by kernel_rfl
theorem may_mW : mayB mW = true := by kernel_rfl
theorem ok_mW : mW.ok := ⟨by decide, by decide, by decide, by decide⟩
end Go.Proofs.YtdaojlipkffigaaGreatDoor
namespace Go.Proofs.YtdaojlipkffigaaGreatDoor
set_option linter.unusedVariables false
set_option linter.unusedSimpArgs false
set_option maxRecDepth 100000
open Go Go.RowKit
def errV : Option Nat → Value
  | none => .nilIface
  | some p => .iface 243 (.pointer (some ⟨p, 0, none⟩))
structure SubW (W w : World) (m mc : LM) (o : Option Nat) (cert S : List UInt8) (g bm be bc bk bs bn gl : Nat) : Prop where
  b : But [] W w
  xm : Blk w bm (mCells m) 24
  xe : Blk w be #[errV o] 70
  xc : Blk w bc #[.pointer (some ⟨g, 0, none⟩)] 26
  xk : Blk w bk #[.string (mkS cert)] 9
  xs : Blk w bs #[.string (mkS S)] 9
  xn : Blk w bn (mCells mc) 24
  xl : Blk w gl #[.func (.func 35) #[] #[.pointer (some ⟨be, 0, none⟩), .pointer (some ⟨bm, 0, none⟩)],
    .func (.func 37) #[] #[.pointer (some ⟨bm, 0, none⟩), .pointer (some ⟨bc, 0, none⟩)],
    .func (.func 38) #[] #[.pointer (some ⟨bk, 0, none⟩), .pointer (some ⟨bn, 0, none⟩), .pointer (some ⟨bs, 0, none⟩), .pointer (some ⟨bm, 0, none⟩), .pointer (some ⟨bc, 0, none⟩)],
    .func (.func 40) #[] #[.pointer (some ⟨bc, 0, none⟩), .pointer (some ⟨bm, 0, none⟩)],
    .func (.func 42) #[] #[.pointer (some ⟨bm, 0, none⟩), .pointer (some ⟨bc, 0, none⟩)]] 75
set_option maxHeartbeats 4000000 in
theorem submit_run (m mc : LM) (Q : Option Nat → Prop) (g gw s : Nat) (a : Int) (cert S : List UInt8) (e : Int) (W : World) (hC : Blk W g (pC mc gw s a) 60)
    (hr : ∀ w, But [] W w → Calls Tryz.prog 33 #[.string (mkS S)] w fun r w' => (∃ o, r = .returned (.tuple #[msgAgg m, errV o]) ∧ Q o) ∧ But [] w w')
    (hf : ∀ w o bm be bc bk bs bn gl, Q o → SubW W w m mc o cert S g bm be bc bk bs bn gl → Calls Tryz.prog 34 #[.slice (some ⟨gl, 0, none⟩) 5 5] w fun r w' => r = .returned (.int .i64 e) ∧ But [] w w') :
    Calls Tryz.prog 16 #[.pointer (some ⟨g, 0, none⟩), .string (mkS cert), .string (mkS S)] W fun r w' => r = .returned (.int .i64 e) ∧ But [] W w' := by
  have HR := Shut.mk hr
  have HF := Shut.mk hf
  have HC := Shut.mk hC
  have B0 := Shut.mk ((((But.refl [] W).alloc (.cells #[.pointer (some ⟨g, 0, none⟩)] 26)).alloc (.cells #[.string (mkS cert)] 9)).alloc (.cells #[.string (mkS S)] 9))
  have C0 := Shut.mk (((Blk.new W #[.pointer (some ⟨g, 0, none⟩)] 26).alloc (.cells #[.string (mkS cert)] 9)).alloc (.cells #[.string (mkS S)] 9))
  have K0 := Shut.mk ((Blk.new (W.alloc (.cells #[.pointer (some ⟨g, 0, none⟩)] 26)) #[.string (mkS cert)] 9).alloc (.cells #[.string (mkS S)] 9))
  have S0 := Shut.mk (Blk.new ((W.alloc (.cells #[.pointer (some ⟨g, 0, none⟩)] 26)).alloc (.cells #[.string (mkS cert)] 9)) #[.string (mkS S)] 9)
  clear hr hf hC
  obtain ⟨h, p, c, w, f, l⟩ := m
  simp only [msgAgg] at HR
  go_enter Tryz.func16, Tryz.ntmps16
  go_wp2_with fail
  refine (HR.out _ B0.out).mono ?_
  rintro r w1 ⟨⟨o, rfl, hq⟩, hb⟩
  have B1 := Shut.mk (B0.out.trans hb)
  have C1 := Shut.mk (C0.out.but hb (by simp))
  have K1 := Shut.mk (K0.out.but hb (by simp))
  have S1 := Shut.mk (S0.out.but hb (by simp))
  have X1 := Shut.mk (HC.out.but B1.out (by simp))
  have HQ := Shut.mk hq
  clear hb hq B0 C0 K0 S0 HR HC
  have bz : Shut (W.heap.size + 1 + 1 < w1.heap.size) := ⟨by have := S1.out.lt; simpa using this⟩
  rcases o with _ | po <;> simp only [errV]
  · go_upto_region 4 with fail
    have M2' := (Blk.new w1 #[.string (mkS h), .string (mkS p), .int .u64 (c : Nat), .int .u64 (w : Nat), .int .u64 (f : Nat), .int .u64 (l : Nat)] 24).alloc (.cells #[.nilIface] 70)
    have E2' := Blk.new (w1.alloc (.cells #[.string (mkS h), .string (mkS p), .int .u64 (c : Nat), .int .u64 (w : Nat), .int .u64 (f : Nat), .int .u64 (l : Nat)] 24)) #[.nilIface] 70
    rw [World.size_alloc] at E2'
    have hb2 := ((But.refl [] w1).alloc (.cells #[.string (mkS h), .string (mkS p), .int .u64 (c : Nat), .int .u64 (w : Nat), .int .u64 (f : Nat), .int .u64 (l : Nat)] 24)).alloc (.cells #[.nilIface] 70)
    generalize (w1.alloc (.cells #[.string (mkS h), .string (mkS p), .int .u64 (c : Nat), .int .u64 (w : Nat), .int .u64 (f : Nat), .int .u64 (l : Nat)] 24)).alloc (.cells #[.nilIface] 70) = w2 at *
    generalize w1.heap.size + 1 = be at *
    generalize w1.heap.size = bm at *
    have M2 := Shut.mk M2'
    have E2 := Shut.mk E2'
    have B2 := Shut.mk (B1.out.trans hb2)
    have C2 := Shut.mk (C1.out.but hb2 (by simp))
    have K2 := Shut.mk (K1.out.but hb2 (by simp))
    have S2 := Shut.mk (S1.out.but hb2 (by simp))
    have X2 := Shut.mk (X1.out.but hb2 (by simp))
    clear M2' E2' hb2 B1 C1 K1 S1 X1 bz
    rw [World.size_alloc] at K2
    rw [World.size_alloc, World.size_alloc] at S2
    generalize W.heap.size + 1 + 1 = bs at *
    generalize W.heap.size + 1 = bk at *
    generalize W.heap.size = bc at *
    obtain ⟨h', p', c', w', f', l'⟩ := mc
    have c0 : w2.cell? ⟨bc, 0, none⟩ = some (.pointer (some ⟨g, 0, none⟩)) := C2.out.cell 0 rfl
    have lc := C2.out.lt
    have x0 : w2.cell? ⟨g, 0, none⟩ = some (.string (mkS h')) := X2.out.cell 0 rfl
    have x1 : w2.cell? ⟨g, 1, none⟩ = some (.string (mkS p')) := X2.out.cell 1 rfl
    have x2 : w2.cell? ⟨g, 2, none⟩ = some (.int .u64 (c' : Nat)) := X2.out.cell 2 rfl
    have x3 : w2.cell? ⟨g, 3, none⟩ = some (.int .u64 (w' : Nat)) := X2.out.cell 3 rfl
    have x4 : w2.cell? ⟨g, 4, none⟩ = some (.int .u64 (f' : Nat)) := X2.out.cell 4 rfl
    have x5 : w2.cell? ⟨g, 5, none⟩ = some (.int .u64 (l' : Nat)) := X2.out.cell 5 rfl
    have lx := X2.out.lt
    go_upto_region 5 with fail
    have N3 := Shut.mk (Blk.new w2 #[.string (mkS h'), .string (mkS p'), .int .u64 (c' : Nat), .int .u64 (w' : Nat), .int .u64 (f' : Nat), .int .u64 (l' : Nat)] 24)
    have hb3 := (But.refl [] w2).alloc (.cells #[.string (mkS h'), .string (mkS p'), .int .u64 (c' : Nat), .int .u64 (w' : Nat), .int .u64 (f' : Nat), .int .u64 (l' : Nat)] 24)
    generalize w2.alloc (.cells #[.string (mkS h'), .string (mkS p'), .int .u64 (c' : Nat), .int .u64 (w' : Nat), .int .u64 (f' : Nat), .int .u64 (l' : Nat)] 24) = w3 at *
    generalize w2.heap.size = bn at *
    have M3 := Shut.mk (M2.out.but hb3 (by simp))
    have E3 := Shut.mk (E2.out.but hb3 (by simp))
    have B3 := Shut.mk (B2.out.trans hb3)
    have C3 := Shut.mk (C2.out.but hb3 (by simp))
    have K3 := Shut.mk (K2.out.but hb3 (by simp))
    have S3 := Shut.mk (S2.out.but hb3 (by simp))
    clear hb3 B2 C2 K2 S2 X2 M2 E2 c0 lc x0 x1 x2 x3 x4 x5 lx
    have L4 := Shut.mk (Blk.new w3 #[.func (.func 35) #[] #[.pointer (some ⟨be, 0, none⟩), .pointer (some ⟨bm, 0, none⟩)],
      .func (.func 37) #[] #[.pointer (some ⟨bm, 0, none⟩), .pointer (some ⟨bc, 0, none⟩)],
      .func (.func 38) #[] #[.pointer (some ⟨bk, 0, none⟩), .pointer (some ⟨bn, 0, none⟩), .pointer (some ⟨bs, 0, none⟩), .pointer (some ⟨bm, 0, none⟩), .pointer (some ⟨bc, 0, none⟩)],
      .func (.func 40) #[] #[.pointer (some ⟨bc, 0, none⟩), .pointer (some ⟨bm, 0, none⟩)],
      .func (.func 42) #[] #[.pointer (some ⟨bm, 0, none⟩), .pointer (some ⟨bc, 0, none⟩)]] 75)
    have hb4 := Shut.mk ((But.refl [] w3).alloc (.cells #[.func (.func 35) #[] #[.pointer (some ⟨be, 0, none⟩), .pointer (some ⟨bm, 0, none⟩)],
      .func (.func 37) #[] #[.pointer (some ⟨bm, 0, none⟩), .pointer (some ⟨bc, 0, none⟩)],
      .func (.func 38) #[] #[.pointer (some ⟨bk, 0, none⟩), .pointer (some ⟨bn, 0, none⟩), .pointer (some ⟨bs, 0, none⟩), .pointer (some ⟨bm, 0, none⟩), .pointer (some ⟨bc, 0, none⟩)],
      .func (.func 40) #[] #[.pointer (some ⟨bc, 0, none⟩), .pointer (some ⟨bm, 0, none⟩)],
      .func (.func 42) #[] #[.pointer (some ⟨bm, 0, none⟩), .pointer (some ⟨bc, 0, none⟩)]] 75))
    go_wp2_with fail
    generalize w3.alloc (.cells #[.func (.func 35) #[] #[.pointer (some ⟨be, 0, none⟩), .pointer (some ⟨bm, 0, none⟩)],
      .func (.func 37) #[] #[.pointer (some ⟨bm, 0, none⟩), .pointer (some ⟨bc, 0, none⟩)],
      .func (.func 38) #[] #[.pointer (some ⟨bk, 0, none⟩), .pointer (some ⟨bn, 0, none⟩), .pointer (some ⟨bs, 0, none⟩), .pointer (some ⟨bm, 0, none⟩), .pointer (some ⟨bc, 0, none⟩)],
      .func (.func 40) #[] #[.pointer (some ⟨bc, 0, none⟩), .pointer (some ⟨bm, 0, none⟩)],
      .func (.func 42) #[] #[.pointer (some ⟨bm, 0, none⟩), .pointer (some ⟨bc, 0, none⟩)]] 75) = w4 at *
    generalize w3.heap.size = gl at *
    refine (HF.out w4 none bm be bc bk bs bn gl HQ.out ⟨B3.out.trans hb4.out, M3.out.but hb4.out (by simp), E3.out.but hb4.out (by simp), C3.out.but hb4.out (by simp), K3.out.but hb4.out (by simp), S3.out.but hb4.out (by simp), N3.out.but hb4.out (by simp), L4.out⟩).mono ?_
    rintro r w5 ⟨rfl, hb5⟩
    have B5 := Shut.mk ((B3.out.trans hb4.out).trans hb5)
    clear hb5 HF HQ
    go_wp2_with fail
    go_ret
    exact ⟨rfl, B5.out⟩
  · go_upto_region 4 with fail
    have M2' := (Blk.new w1 #[.string (mkS h), .string (mkS p), .int .u64 (c : Nat), .int .u64 (w : Nat), .int .u64 (f : Nat), .int .u64 (l : Nat)] 24).alloc (.cells #[.iface 243 (.pointer (some ⟨po, 0, none⟩))] 70)
    have E2' := Blk.new (w1.alloc (.cells #[.string (mkS h), .string (mkS p), .int .u64 (c : Nat), .int .u64 (w : Nat), .int .u64 (f : Nat), .int .u64 (l : Nat)] 24)) #[.iface 243 (.pointer (some ⟨po, 0, none⟩))] 70
    rw [World.size_alloc] at E2'
    have hb2 := ((But.refl [] w1).alloc (.cells #[.string (mkS h), .string (mkS p), .int .u64 (c : Nat), .int .u64 (w : Nat), .int .u64 (f : Nat), .int .u64 (l : Nat)] 24)).alloc (.cells #[.iface 243 (.pointer (some ⟨po, 0, none⟩))] 70)
    generalize (w1.alloc (.cells #[.string (mkS h), .string (mkS p), .int .u64 (c : Nat), .int .u64 (w : Nat), .int .u64 (f : Nat), .int .u64 (l : Nat)] 24)).alloc (.cells #[.iface 243 (.pointer (some ⟨po, 0, none⟩))] 70) = w2 at *
    generalize w1.heap.size + 1 = be at *
    generalize w1.heap.size = bm at *
    have M2 := Shut.mk M2'
    have E2 := Shut.mk E2'
    have B2 := Shut.mk (B1.out.trans hb2)
    have C2 := Shut.mk (C1.out.but hb2 (by simp))
    have K2 := Shut.mk (K1.out.but hb2 (by simp))
    have S2 := Shut.mk (S1.out.but hb2 (by simp))
    have X2 := Shut.mk (X1.out.but hb2 (by simp))
    clear M2' E2' hb2 B1 C1 K1 S1 X1 bz
    rw [World.size_alloc] at K2
    rw [World.size_alloc, World.size_alloc] at S2
    generalize W.heap.size + 1 + 1 = bs at *
    generalize W.heap.size + 1 = bk at *
    generalize W.heap.size = bc at *
    obtain ⟨h', p', c', w', f', l'⟩ := mc
    have c0 : w2.cell? ⟨bc, 0, none⟩ = some (.pointer (some ⟨g, 0, none⟩)) := C2.out.cell 0 rfl
    have lc := C2.out.lt
    have x0 : w2.cell? ⟨g, 0, none⟩ = some (.string (mkS h')) := X2.out.cell 0 rfl
    have x1 : w2.cell? ⟨g, 1, none⟩ = some (.string (mkS p')) := X2.out.cell 1 rfl
    have x2 : w2.cell? ⟨g, 2, none⟩ = some (.int .u64 (c' : Nat)) := X2.out.cell 2 rfl
    have x3 : w2.cell? ⟨g, 3, none⟩ = some (.int .u64 (w' : Nat)) := X2.out.cell 3 rfl
    have x4 : w2.cell? ⟨g, 4, none⟩ = some (.int .u64 (f' : Nat)) := X2.out.cell 4 rfl
    have x5 : w2.cell? ⟨g, 5, none⟩ = some (.int .u64 (l' : Nat)) := X2.out.cell 5 rfl
    have lx := X2.out.lt
    go_upto_region 5 with fail
    have N3 := Shut.mk (Blk.new w2 #[.string (mkS h'), .string (mkS p'), .int .u64 (c' : Nat), .int .u64 (w' : Nat), .int .u64 (f' : Nat), .int .u64 (l' : Nat)] 24)
    have hb3 := (But.refl [] w2).alloc (.cells #[.string (mkS h'), .string (mkS p'), .int .u64 (c' : Nat), .int .u64 (w' : Nat), .int .u64 (f' : Nat), .int .u64 (l' : Nat)] 24)
    generalize w2.alloc (.cells #[.string (mkS h'), .string (mkS p'), .int .u64 (c' : Nat), .int .u64 (w' : Nat), .int .u64 (f' : Nat), .int .u64 (l' : Nat)] 24) = w3 at *
    generalize w2.heap.size = bn at *
    have M3 := Shut.mk (M2.out.but hb3 (by simp))
    have E3 := Shut.mk (E2.out.but hb3 (by simp))
    have B3 := Shut.mk (B2.out.trans hb3)
    have C3 := Shut.mk (C2.out.but hb3 (by simp))
    have K3 := Shut.mk (K2.out.but hb3 (by simp))
    have S3 := Shut.mk (S2.out.but hb3 (by simp))
    clear hb3 B2 C2 K2 S2 X2 M2 E2 c0 lc x0 x1 x2 x3 x4 x5 lx
    have L4 := Shut.mk (Blk.new w3 #[.func (.func 35) #[] #[.pointer (some ⟨be, 0, none⟩), .pointer (some ⟨bm, 0, none⟩)],
      .func (.func 37) #[] #[.pointer (some ⟨bm, 0, none⟩), .pointer (some ⟨bc, 0, none⟩)],
      .func (.func 38) #[] #[.pointer (some ⟨bk, 0, none⟩), .pointer (some ⟨bn, 0, none⟩), .pointer (some ⟨bs, 0, none⟩), .pointer (some ⟨bm, 0, none⟩), .pointer (some ⟨bc, 0, none⟩)],
      .func (.func 40) #[] #[.pointer (some ⟨bc, 0, none⟩), .pointer (some ⟨bm, 0, none⟩)],
      .func (.func 42) #[] #[.pointer (some ⟨bm, 0, none⟩), .pointer (some ⟨bc, 0, none⟩)]] 75)
    have hb4 := Shut.mk ((But.refl [] w3).alloc (.cells #[.func (.func 35) #[] #[.pointer (some ⟨be, 0, none⟩), .pointer (some ⟨bm, 0, none⟩)],
      .func (.func 37) #[] #[.pointer (some ⟨bm, 0, none⟩), .pointer (some ⟨bc, 0, none⟩)],
      .func (.func 38) #[] #[.pointer (some ⟨bk, 0, none⟩), .pointer (some ⟨bn, 0, none⟩), .pointer (some ⟨bs, 0, none⟩), .pointer (some ⟨bm, 0, none⟩), .pointer (some ⟨bc, 0, none⟩)],
      .func (.func 40) #[] #[.pointer (some ⟨bc, 0, none⟩), .pointer (some ⟨bm, 0, none⟩)],
      .func (.func 42) #[] #[.pointer (some ⟨bm, 0, none⟩), .pointer (some ⟨bc, 0, none⟩)]] 75))
    go_wp2_with fail
    generalize w3.alloc (.cells #[.func (.func 35) #[] #[.pointer (some ⟨be, 0, none⟩), .pointer (some ⟨bm, 0, none⟩)],
      .func (.func 37) #[] #[.pointer (some ⟨bm, 0, none⟩), .pointer (some ⟨bc, 0, none⟩)],
      .func (.func 38) #[] #[.pointer (some ⟨bk, 0, none⟩), .pointer (some ⟨bn, 0, none⟩), .pointer (some ⟨bs, 0, none⟩), .pointer (some ⟨bm, 0, none⟩), .pointer (some ⟨bc, 0, none⟩)],
      .func (.func 40) #[] #[.pointer (some ⟨bc, 0, none⟩), .pointer (some ⟨bm, 0, none⟩)],
      .func (.func 42) #[] #[.pointer (some ⟨bm, 0, none⟩), .pointer (some ⟨bc, 0, none⟩)]] 75) = w4 at *
    generalize w3.heap.size = gl at *
    refine (HF.out w4 (some po) bm be bc bk bs bn gl HQ.out ⟨B3.out.trans hb4.out, M3.out.but hb4.out (by simp), E3.out.but hb4.out (by simp), C3.out.but hb4.out (by simp), K3.out.but hb4.out (by simp), S3.out.but hb4.out (by simp), N3.out.but hb4.out (by simp), L4.out⟩).mono ?_
    rintro r w5 ⟨rfl, hb5⟩
    have B5 := Shut.mk ((B3.out.trans hb4.out).trans hb5)
    clear hb5 HF HQ
    go_wp2_with fail
    go_ret
    exact ⟨rfl, B5.out⟩
end Go.Proofs.YtdaojlipkffigaaGreatDoor
namespace Go.Proofs.YtdaojlipkffigaaGreatDoor
set_option linter.unusedVariables false
set_option linter.unusedSimpArgs false
set_option maxRecDepth 100000
open Go Go.RowKit
end Go.Proofs.YtdaojlipkffigaaGreatDoor
namespace Go.Proofs.YtdaojlipkffigaaGreatDoor
set_option linter.unusedVariables false
set_option linter.unusedSimpArgs false
set_option maxRecDepth 100000
open Go Go.RowKit
end Go.Proofs.YtdaojlipkffigaaGreatDoor
namespace Go.Proofs.YtdaojlipkffigaaGreatDoor
set_option linter.unusedVariables false
set_option linter.unusedSimpArgs false
set_option maxRecDepth 100000
open Go Go.RowKit
end Go.Proofs.YtdaojlipkffigaaGreatDoor
