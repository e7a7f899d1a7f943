/- HZb, HZc, HZd, HZe, HZf, Range, HZh, KD, KE, IN: merged by merge.py. -/
import Derived.Test.YtdaojlipkffigaaGreatDoorCK28
import Derived.RangeFuncNested
import Derived.RangeFuncBound
import Derived.RangeFuncCalls
import Derived.RangeFuncLeaves
import Derived.Test.YtdaojlipkffigaaGreatDoorCK12
import Derived.Test.YtdaojlipkffigaaGreatDoorCK05
import Derived.Laws.EntriesVeiled
namespace Go.Proofs.YtdaojlipkffigaaGreatDoor
set_option linter.unusedVariables false
set_option linter.unusedSimpArgs false
set_option maxRecDepth 100000
open Go Go.RowKit
end Go.Proofs.YtdaojlipkffigaaGreatDoor
namespace Go.Proofs.YtdaojlipkffigaaGreatDoor
set_option linter.unusedVariables false
set_option linter.unusedSimpArgs false
set_option maxRecDepth 100000
open Go Go.RowKit
end Go.Proofs.YtdaojlipkffigaaGreatDoor
namespace Go.Proofs.YtdaojlipkffigaaGreatDoor
set_option linter.unusedVariables false
set_option linter.unusedSimpArgs false
set_option maxRecDepth 100000
open Go Go.RowKit
set_option maxHeartbeats 2000000 in
theorem pnew_bad (m : LM) (s : Nat) (a b : Int) (B : Nat) (W : World) (hT : PackT B W) (hB : B ≤ W.heap.size) (hm : m.ok) (hs : s < 18446744073709551616) (hg : ¬ NewOk m s a b) :
    Calls Tryz.prog 5 #[msgAgg m, .int .u64 (s : Nat), .agg #[.int .i64 a, .int .i64 b]] W fun e w' => e = .returned (.tuple #[.pointer none, .int .i64 2]) ∧ But [] W w' := by
  have B0 := Shut.mk (((But.refl [] W).alloc (.cells (mCells m) 24)).alloc (.cells (nCells a b) 25))
  have X0 := Shut.mk ((Blk.new W (mCells m) 24).alloc (.cells (nCells a b) 25))
  have Y0 := Shut.mk (Blk.new (W.alloc (.cells (mCells m) 24)) (nCells a b) 25)
  have E := Shut.mk (may_any m B ((W.alloc (.cells (mCells m) 24)).alloc (.cells (nCells a b) 25)) (hT.but B0.out) (Nat.le_trans hB B0.out.size) hm)
  clear hT hB
  have hbad : mayB m = true → ¬ (s = 0) → ¬ (256 < s) → (decide (0 < a) && decide (a ≤ 640)) = true → (decide (0 < b) && decide (b ≤ 32)) = true → False := fun h1 h2 h3 h4 h5 => by
    simp only [Bool.and_eq_true, decide_eq_true_eq] at h4 h5
    exact hg ⟨h1, by omega, by omega, by omega, by omega, by omega, by omega⟩
  clear hg
  have C1 := fun W1 => cwithin_any a 640 W1
  have C2 := fun W1 => cwithin_any b 32 W1
  have hq : ∀ q : Bool, q = decide (s = 0) → ∀ t, binOp .eql t (.int .u64 (s : Nat)) (.int .u64 0) = pure (.bool q) := fun q hq t => by
    have e : ((s : Int) == 0) = q := by rw [hq, Bool.eq_iff_iff, beq_iff_eq, decide_eq_true_iff]; omega
    rw [← e]; rfl
  obtain ⟨h, p, c, w, f, l⟩ := m
  simp only [mCells, nCells, msgAgg] at *
  clear hm hs
  generalize mayB ⟨h, p, c, w, f, l⟩ = mv at *
  generalize (decide (0 < a) && decide (a ≤ 640)) = va at *
  generalize (decide (0 < b) && decide (b ≤ 32)) = vb at *
  cases mv
  case false =>
    clear hbad C1 C2 hq
    go_enter Tryz.func5, Tryz.ntmps5
    go_wp2_with fail
    refine E.out.mono ?_
    rintro e w1 ⟨rfl, hb⟩
    have X1 := Shut.mk (X0.out.but hb (by simp))
    have Y1 := Shut.mk (Y0.out.but hb (by simp))
    have B1 := Shut.mk (B0.out.trans hb)
    have n0 : w1.cell? ⟨W.heap.size + 1, 0, none⟩ = some (.int .i64 a) := by have := Y1.out.cell 0 rfl; simpa using this
    have n1 : w1.cell? ⟨W.heap.size + 1, 1, none⟩ = some (.int .i64 b) := by have := Y1.out.cell 1 rfl; simpa using this
    clear hb E X0 Y0 B0
    go_wp2_with fail
    refine bodyPost_ret (results_tmp2 rfl _ _ _) rfl ?_
    exact ⟨rfl, B1.out⟩
  have HB := Shut.mk (hbad rfl)
  clear hbad
  by_cases h0 : s = 0
  · have hq0 := hq true (by simp [h0])
    clear hq HB C1 C2 h0
    go_enter Tryz.func5, Tryz.ntmps5
    go_wp2_with fail
    refine E.out.mono ?_
    rintro e w1 ⟨rfl, hb⟩
    have X1 := Shut.mk (X0.out.but hb (by simp))
    have Y1 := Shut.mk (Y0.out.but hb (by simp))
    have B1 := Shut.mk (B0.out.trans hb)
    have n0 : w1.cell? ⟨W.heap.size + 1, 0, none⟩ = some (.int .i64 a) := by have := Y1.out.cell 0 rfl; simpa using this
    have n1 : w1.cell? ⟨W.heap.size + 1, 1, none⟩ = some (.int .i64 b) := by have := Y1.out.cell 1 rfl; simpa using this
    clear hb E X0 Y0 B0
    go_wp2_with fail
    refine bodyPost_ret (results_tmp2 rfl _ _ _) rfl ?_
    exact ⟨rfl, B1.out⟩
  have hq0 := hq false (by simp [h0])
  by_cases h1 : 256 < s
  · have h1i : (s : Int) > 256 := by omega
    have h1j : 256 < (s : Int) := by omega
    clear hq HB C1 C2 h0 h1
    go_enter Tryz.func5, Tryz.ntmps5
    go_wp2_with fail
    refine E.out.mono ?_
    rintro e w1 ⟨rfl, hb⟩
    have X1 := Shut.mk (X0.out.but hb (by simp))
    have Y1 := Shut.mk (Y0.out.but hb (by simp))
    have B1 := Shut.mk (B0.out.trans hb)
    have n0 : w1.cell? ⟨W.heap.size + 1, 0, none⟩ = some (.int .i64 a) := by have := Y1.out.cell 0 rfl; simpa using this
    have n1 : w1.cell? ⟨W.heap.size + 1, 1, none⟩ = some (.int .i64 b) := by have := Y1.out.cell 1 rfl; simpa using this
    clear hb E X0 Y0 B0
    go_wp2_with fail
    refine bodyPost_ret (results_tmp2 rfl _ _ _) rfl ?_
    exact ⟨rfl, B1.out⟩
  have HB := Shut.mk (HB.out h0 h1)
  have h1i : ¬ ((s : Int) > 256) := by omega
  have h1j : ¬ (256 < (s : Int)) := by omega
  clear hq h0 h1
  cases va
  · clear HB C2
    go_enter Tryz.func5, Tryz.ntmps5
    go_wp2_with fail
    refine E.out.mono ?_
    rintro e w1 ⟨rfl, hb⟩
    have X1 := Shut.mk (X0.out.but hb (by simp))
    have Y1 := Shut.mk (Y0.out.but hb (by simp))
    have B1 := Shut.mk (B0.out.trans hb)
    have n0 : w1.cell? ⟨W.heap.size + 1, 0, none⟩ = some (.int .i64 a) := by have := Y1.out.cell 0 rfl; simpa using this
    have n1 : w1.cell? ⟨W.heap.size + 1, 1, none⟩ = some (.int .i64 b) := by have := Y1.out.cell 1 rfl; simpa using this
    clear hb E X0 Y0 B0
    go_wp2_with fail
    refine (C1 _).mono ?_
    rintro e w2 ⟨rfl, hw2⟩
    rw [hw2]
    clear hw2 w2
    go_wp2_with fail
    refine bodyPost_ret (results_tmp2 rfl _ _ _) rfl ?_
    exact ⟨rfl, B1.out⟩
  cases vb
  · clear HB
    go_enter Tryz.func5, Tryz.ntmps5
    go_wp2_with fail
    refine E.out.mono ?_
    rintro e w1 ⟨rfl, hb⟩
    have X1 := Shut.mk (X0.out.but hb (by simp))
    have Y1 := Shut.mk (Y0.out.but hb (by simp))
    have B1 := Shut.mk (B0.out.trans hb)
    have n0 : w1.cell? ⟨W.heap.size + 1, 0, none⟩ = some (.int .i64 a) := by have := Y1.out.cell 0 rfl; simpa using this
    have n1 : w1.cell? ⟨W.heap.size + 1, 1, none⟩ = some (.int .i64 b) := by have := Y1.out.cell 1 rfl; simpa using this
    clear hb E X0 Y0 B0
    go_wp2_with fail
    refine (C1 _).mono ?_
    rintro e w2 ⟨rfl, hw2⟩
    rw [hw2]
    clear hw2 w2
    go_wp2_with fail
    refine (C2 _).mono ?_
    rintro e w3 ⟨rfl, hw3⟩
    rw [hw3]
    clear hw3 w3
    go_wp2_with fail
    refine bodyPost_ret (results_tmp2 rfl _ _ _) rfl ?_
    exact ⟨rfl, B1.out⟩
  exact (HB.out rfl rfl).elim
end Go.Proofs.YtdaojlipkffigaaGreatDoor
namespace Go.Proofs.YtdaojlipkffigaaGreatDoor
set_option linter.unusedVariables false
set_option linter.unusedSimpArgs false
set_option maxRecDepth 100000
open Go Go.RowKit
theorem wall_any (gw : Nat) (W : World) : Calls Tryz.prog 53 #[.pointer (some ⟨gw, 0, none⟩)] W fun e w' => e = .returned (.func (.func 101) #[] #[.pointer (some ⟨W.heap.size, 0, none⟩)]) ∧ w' = W.alloc (.cells #[.pointer (some ⟨gw, 0, none⟩)] 57) := by
  go_enter Tryz.func53, Tryz.ntmps53
  go_wp2_with fail
  go_ret
  exact ⟨rfl, rfl⟩
theorem cdig_nil (W : World) : Calls Tryz.prog 10 #[.pointer none] W fun e w' => e = .returned (.string (mkS [])) ∧ w' = W := by
  go_enter Tryz.func10, Tryz.ntmps10
  go_wp2_with fail
  go_ret
  exact ⟨rfl, rfl⟩
end Go.Proofs.YtdaojlipkffigaaGreatDoor
namespace Go.Proofs.YtdaojlipkffigaaGreatDoor
set_option linter.unusedVariables false
set_option linter.unusedSimpArgs false
set_option maxRecDepth 100000
open Go Go.RowKit
theorem iter_empty (y : Value) (gb gw : Nat) (b : Int) (W : World) (hb : Blk W gb #[.pointer (some ⟨gw, 0, none⟩)] 57) (hx : Blk W gw (winZ b) 96) :
    Calls Tryz.prog 101 #[y, .pointer (some ⟨gb, 0, none⟩)] W fun e w' => e = .returned (.tuple #[]) ∧ Later W w' := by
  have CE : Shut (∀ W1, Later W W1 → W1.cell? ⟨gb, 0, none⟩ = some (.pointer (some ⟨gw, 0, none⟩))) := ⟨fun W1 hl => (hb.later hl).cell 0 rfl⟩
  have LE := Shut.mk (fun W1 (hl : Later W W1) => len_empty gw b W1 (hx.later hl))
  have L0 := Shut.mk (Later.refl W)
  clear hb hx
  go_enter Tryz.func101, Tryz.ntmps101
  go_wp2_with fail
  go_loopw [3] (fun i wr => i = .int .i64 0 ∧ Later W wr) (fun _ _ => 0)
  case atStart => exact ⟨rfl, L0.out⟩
  case round =>
    obtain ⟨rfl, hl0⟩ := hrel
    have HL := Shut.mk hl0
    have HD : Shut (∀ W1, Later (World.drew wr) W1 → Later W W1) := ⟨fun W1 h => hl0.trans ((show Later _ _ from (Below.refl _ _).drew).trans h)⟩
    clear hl0
    go_wp2_with fail
    refine wp_region_later (by kernel_rfl) [] ?_
    refine wpAnyB_take (i := 0) (v := ?_) rfl (by kernel_rfl) (by kernel_rfl) (by kernel_rfl) (fun _ _ _ h => h) (by kernel_rfl) (fix_value (by rfl) ?_) ?_
    rotate_left
    · (intro W1 hl; go_simp <;> with_reducible rfl)
    try simp only [List.getElem_toArray, List.getElem_cons_zero, List.getElem_cons_succ, Act.put, List.setIfInBounds_toArray, List.set_cons_zero, List.set_cons_succ]
    refine wpAnyB_take (i := 1) (v := ?_) rfl (by kernel_rfl) (by kernel_rfl) (by kernel_rfl) (fun _ _ _ h => h) (by kernel_rfl) (fix_value (by rfl) ?_) ?_
    rotate_left
    · (intro W1 hl; have c0 := CE.out W1 (HD.out W1 hl); go_simp <;> with_reducible rfl)
    try simp only [List.getElem_toArray, List.getElem_cons_zero, List.getElem_cons_succ, Act.put, List.setIfInBounds_toArray, List.set_cons_zero, List.set_cons_succ]
    refine wpAnyB_take (i := 2) (v := _) rfl (by kernel_rfl) (by kernel_rfl) (by kernel_rfl) (fun _ _ _ h => h) (by kernel_rfl) (fix_enter (by rfl) (fun W1 hl => (LE.out W1 (HD.out W1 hl)).mono (by rintro e w' ⟨rfl, rfl⟩; exact ⟨rfl, Later.refl _⟩)) ?_) ?_
    · (intro W1 hl; go_simp <;> with_reducible rfl)
    try simp only [List.getElem_toArray, List.getElem_cons_zero, List.getElem_cons_succ, Act.put, List.setIfInBounds_toArray, List.set_cons_zero, List.set_cons_succ]
    refine wpAnyB_take (i := 3) (v := ?_) rfl (by kernel_rfl) (by kernel_rfl) (by kernel_rfl) (fun _ _ _ h => h) (by kernel_rfl) (fix_value (by rfl) ?_) ?_
    rotate_left
    · (intro W1 hl; go_simp <;> with_reducible rfl)
    try simp only [List.getElem_toArray, List.getElem_cons_zero, List.getElem_cons_succ, Act.put, List.setIfInBounds_toArray, List.set_cons_zero, List.set_cons_succ]
    refine wpAnyB_take (i := 4) (v := ?_) rfl (by kernel_rfl) (by kernel_rfl) (by kernel_rfl) (fun _ _ _ h => h) (by kernel_rfl) (fix_value (by rfl) ?_) ?_
    rotate_left
    · (intro W1 hl; go_simp <;> with_reducible rfl)
    try simp only [List.getElem_toArray, List.getElem_cons_zero, List.getElem_cons_succ, Act.put, List.setIfInBounds_toArray, List.set_cons_zero, List.set_cons_succ]
    refine wpAnyB_take (i := 5) (v := undef) rfl (by kernel_rfl) (by kernel_rfl) (by kernel_rfl) (fun _ _ _ h => h) (by kernel_rfl) (Or.inr ⟨by rfl, rfl⟩) ?_
    try simp only [List.getElem_toArray, List.getElem_cons_zero, List.getElem_cons_succ, Act.put, List.setIfInBounds_toArray, List.set_cons_zero, List.set_cons_succ]
    refine wpAnyB_take (i := 6) (v := undef) rfl (by kernel_rfl) (by kernel_rfl) (by kernel_rfl) (fun _ _ _ h => h) (by kernel_rfl) (Or.inr ⟨by rfl, rfl⟩) ?_
    try simp only [List.getElem_toArray, List.getElem_cons_zero, List.getElem_cons_succ, Act.put, List.setIfInBounds_toArray, List.set_cons_zero, List.set_cons_succ]
    refine wpAnyB_take (i := 7) (v := undef) rfl (by kernel_rfl) (by kernel_rfl) (by kernel_rfl) (fun _ _ _ h => h) (by kernel_rfl) (Or.inr ⟨by rfl, rfl⟩) ?_
    try simp only [List.getElem_toArray, List.getElem_cons_zero, List.getElem_cons_succ, Act.put, List.setIfInBounds_toArray, List.set_cons_zero, List.set_cons_succ]
    refine wpAnyB_take (i := 8) (v := undef) rfl (by kernel_rfl) (by kernel_rfl) (by kernel_rfl) (fun _ _ _ h => h) (by kernel_rfl) (Or.inr ⟨by rfl, rfl⟩) ?_
    try simp only [List.getElem_toArray, List.getElem_cons_zero, List.getElem_cons_succ, Act.put, List.setIfInBounds_toArray, List.set_cons_zero, List.set_cons_succ]
    refine wpAnyB_take (i := 9) (v := undef) rfl (by kernel_rfl) (by kernel_rfl) (by kernel_rfl) (fun _ _ _ h => h) (by kernel_rfl) (Or.inr ⟨by rfl, rfl⟩) ?_
    try simp only [List.getElem_toArray, List.getElem_cons_zero, List.getElem_cons_succ, Act.put, List.setIfInBounds_toArray, List.set_cons_zero, List.set_cons_succ]
    refine wpAnyB_take (i := 10) (v := undef) rfl (by kernel_rfl) (by kernel_rfl) (by kernel_rfl) (fun _ _ _ h => h) (by kernel_rfl) (Or.inr ⟨by rfl, rfl⟩) ?_
    try simp only [List.getElem_toArray, List.getElem_cons_zero, List.getElem_cons_succ, Act.put, List.setIfInBounds_toArray, List.set_cons_zero, List.set_cons_succ]
    refine wpAnyB_take (i := 11) (v := undef) rfl (by kernel_rfl) (by kernel_rfl) (by kernel_rfl) (fun _ _ _ h => h) (by kernel_rfl) (Or.inr ⟨by rfl, rfl⟩) ?_
    try simp only [List.getElem_toArray, List.getElem_cons_zero, List.getElem_cons_succ, Act.put, List.setIfInBounds_toArray, List.set_cons_zero, List.set_cons_succ]
    refine wpAnyB_take (i := 12) (v := undef) rfl (by kernel_rfl) (by kernel_rfl) (by kernel_rfl) (fun _ _ _ h => h) (by kernel_rfl) (Or.inr ⟨by rfl, rfl⟩) ?_
    try simp only [List.getElem_toArray, List.getElem_cons_zero, List.getElem_cons_succ, Act.put, List.setIfInBounds_toArray, List.set_cons_zero, List.set_cons_succ]
    refine wpAnyB_take (i := 13) (v := undef) rfl (by kernel_rfl) (by kernel_rfl) (by kernel_rfl) (fun _ _ _ h => h) (by kernel_rfl) (Or.inr ⟨by rfl, rfl⟩) ?_
    try simp only [List.getElem_toArray, List.getElem_cons_zero, List.getElem_cons_succ, Act.put, List.setIfInBounds_toArray, List.set_cons_zero, List.set_cons_succ]
    refine wpAnyB_take (i := 14) (v := undef) rfl (by kernel_rfl) (by kernel_rfl) (by kernel_rfl) (fun _ _ _ h => h) (by kernel_rfl) (Or.inr ⟨by rfl, rfl⟩) ?_
    try simp only [List.getElem_toArray, List.getElem_cons_zero, List.getElem_cons_succ, Act.put, List.setIfInBounds_toArray, List.set_cons_zero, List.set_cons_succ]
    refine wpAnyB_take (i := 15) (v := ?_) rfl (by kernel_rfl) (by kernel_rfl) (by kernel_rfl) (fun _ _ _ h => h) (by kernel_rfl) (fix_value (by rfl) ?_) ?_
    rotate_left
    · (intro W1 hl; go_simp <;> with_reducible rfl)
    try simp only [List.getElem_toArray, List.getElem_cons_zero, List.getElem_cons_succ, Act.put, List.setIfInBounds_toArray, List.set_cons_zero, List.set_cons_succ]
    refine wpAnyB_done (by kernel_rfl) (fun w2 hl4 => ?_) _
    try simp only [List.getElem_toArray, List.getElem_cons_zero, List.getElem_cons_succ, Act.put, List.setIfInBounds_toArray, List.set_cons_zero, List.set_cons_succ]
    have HL2 := Shut.mk (HD.out _ hl4)
    clear hl4 HD HL CE LE
    go_wp2_with fail
    exact ⟨rfl, _, results_none rfl _ _ _, rfl, HL2.out⟩
end Go.Proofs.YtdaojlipkffigaaGreatDoor
namespace Go.Proofs.YtdaojlipkffigaaGreatDoor
set_option linter.unusedVariables false
open Go Go.RowKit
variable {F : Fence} {n : Nat} {P : Program}
def invPost {α : Type} (B : Nat) (I : List α → World → Prop) (Ix : Code → List α → World → Prop) (xs : List α) (W : World) : Exit → Act → World → Prop
  | .normal, _, W' => KeepsFrom B W W' ∧ I xs W'
  | .ret, _, W' => KeepsFrom B W W' ∧ Ix .ret xs W'
  | .exit id, _, W' => KeepsFrom B W W' ∧ Ix (.exit id) xs W'
  | .goto t, _, W' => KeepsFrom B W W' ∧ Ix (.goto t) xs W'
  | .panic _, _, _ => False
  | .outgrown, _, _ => False
def Stays {β : Type} (B : Nat) (I : β → World → Prop) : Prop :=
  ∀ s W l o o', I s W → B ≤ l → W.heap[l]? = some o → o.isCells = false → I s (W.putObj l o')
theorem wpIn_rangeFunc_inv {α : Type} {g : Operand} {ps : Array Tmp} {assign body : Code} {Q : Exit → Act → World → Prop} {a : Act} {w : World}
    (hro : F.round = none) (h1 : 1 ≤ n) {gf : Nat} {lb : Array Value} (hg : a.eval g = .func (.func gf) #[] lb) (hFg : F.fn gf) (eg : ∀ args w, (callFunc gf args).run P w = .ok (.enter gf args) w)
    {encs : α → Array Value} (hps : ∀ x, (encs x).size = ps.size) {S : List α → Prop}
    (I : List α → World → Prop) (M : List α × α → World → Prop) (Ix : Code → List α → World → Prop)
    (hI : OwnFrom w.heap.size I) (hM : Stays w.heap.size M) (hIx : ∀ c, Stays w.heap.size (Ix c)) (h0 : I [] w) (a₁ : α → Act)
    (hassign : ∀ (l : Nat) (x : α) (W : World) (K : Act → World → Prop), K (a₁ x) W →
      assign.wpIn (F.inRound l) (n - 1 - 1) P (Exit.then K (fun _ _ _ => False)) { tmps := (ps.zip (encs x)).foldl (fun t (p, v) => t.setIfInBounds p v) a.tmps, defers := [] } W)
    (hbody : ∀ (l : Nat) (pre : List α) (x : α) (W : World), M (pre, x) W → body.wpIn (F.inRound l) (n - 1 - 1) P (invPost w.heap.size I Ix (pre ++ [x]) W) (a₁ x) W)
    (hiter : ∀ (l : Nat) (R : World → Prop) (Rx : Code → World → Prop), w.heap.size ≤ l → (∀ W W', R W → KeepsFrom w.heap.size W W' → R W') →
      (∀ c W W', Rx c W → KeepsFrom w.heap.size W W' → Rx c W') → (∀ W, R W → l < W.heap.size) →
      (∀ pre x W, M (pre, x) W → R W → YieldAt F (n - 1 - 1) P l (encs x) W fun e W' =>
        (e = .returned (.bool true) ∧ I (pre ++ [x]) W' ∧ R W') ∨ (e = .returned (.bool false) ∧ ∃ c, Ix c (pre ++ [x]) W' ∧ Rx c W')) →
      ∀ W, I [] W → R W → CallsIn F (n - 1) P gf (#[.func (.yield l) #[] #[]] ++ lb) W fun e W' => (∃ v, e = .returned v) ∧
        ((∃ xs, S xs ∧ I xs W' ∧ R W') ∨ (∃ c pre, Ix c pre W' ∧ Rx c W')))
    (hdone : ∀ (xs : List α) (W : World), S xs → I xs W → W.heap[w.heap.size]? = some (.deferred (some [])) → Q .normal { a with defers := { target := .collected w.heap.size, args := #[] } :: a.defers } W)
    (hstop : ∀ (c : Code) (pre : List α) (W : World), Ix c pre W → W.heap[w.heap.size]? = some (.deferred (some [])) → c.wpIn F n P Q { a with defers := { target := .collected w.heap.size, args := #[] } :: a.defers } W) :
    (Code.rangeFunc g ps assign body).wpIn F n P Q a w := by
  refine wpIn_rangeFunc ?_
  intro fn hfn
  rw [hro]
  obtain ⟨rec, hrec⟩ : ∃ rec : LoopState → Option Code → Loop, rec = fun st pe => { state := st, pending := pe, fn, tmps := a.tmps, params := ps, assign, body, defers := w.heap.size } := ⟨_, rfl⟩
  obtain ⟨W1, hW1⟩ : ∃ W1, (w.alloc (.deferred (some []))).alloc (.loop (rec .ready none)) = W1 := ⟨_, rfl⟩
  have hL1 : W1.heap[w.heap.size + 1]? = some (.loop (rec .ready none)) := by
    rw [← hW1]; have := World.alloc_heap_new (w.alloc (.deferred (some []))) (.loop (rec .ready none)); rwa [World.size_alloc] at this
  have hK1 : W1.heap[w.heap.size]? = some (.deferred (some [])) := by
    rw [← hW1]; exact (Below.heap_alloc _ _ _ (by simp)).trans (World.alloc_heap_new w _)
  have hI1 : I [] W1 := by rw [← hW1]; exact hI.alloc _ (hI.alloc _ h0)
  refine ⟨w.heap.size + 1, [{ target := .collected w.heap.size, args := #[] }], W1, { target := .fn (.func gf) lb, args := #[.func (.yield (w.heap.size + 1)) #[] #[]] }, W1, gf,
    #[.func (.yield (w.heap.size + 1)) #[] #[]] ++ lb, W1, ?_, ?_, ?_, ?_, fun _ => h1, ?_⟩
  · rw [← hW1, hrec]; exact run_enterLoop_outer _ _ _ _ _
  · simp only [resolve, hg]
    simp [go_sem]
  · intro f' hf'; simp [Target.leads] at hf'; subst hf'; exact hFg
  · simp [invoke, go_sem, eg]
  · refine (hiter (w.heap.size + 1)
      (fun W => W.heap[w.heap.size + 1]? = some (.loop (rec .ready none)) ∧ W.heap[w.heap.size]? = some (.deferred (some [])))
      (fun c W => W.heap[w.heap.size + 1]? = some (.loop (rec .done (some c))) ∧ W.heap[w.heap.size]? = some (.deferred (some [])))
      (Nat.le_succ _)
      (fun W W' h hk => ⟨hk.same _ _ (Nat.le_succ _) h.1 rfl, hk.same _ _ (Nat.le_refl _) h.2 rfl⟩)
      (fun c W W' h hk => ⟨hk.same _ _ (Nat.le_succ _) h.1 rfl, hk.same _ _ (Nat.le_refl _) h.2 rfl⟩)
      (fun W h => (Array.getElem?_eq_some_iff.1 h.1).1)
      ?_ W1 hI1 ⟨hL1, hK1⟩).mono ?_
    · rintro pre x W hi ⟨hl, hk⟩
      have hlt : w.heap.size + 1 < W.heap.size := (Array.getElem?_eq_some_iff.1 hl).1
      have hy := run_yield (P := P) (args := encs x) hl (by rw [hrec]; exact hps x)
      rw [hrec] at hy
      refine ⟨fn, _, assign, body, hy, roundIn_of_wpIn hfn (hassign _ x W _ ⟨_, run_beginRound hl (by rw [hrec]), ?_⟩)⟩
      have hl2 : (W.putObj (w.heap.size + 1) (.loop { rec .ready none with state := .busy })).heap[w.heap.size + 1]? = some (.loop { rec .ready none with state := .busy }) := World.putObj_heap_same hlt
      have hk2 : (W.putObj (w.heap.size + 1) (.loop { rec .ready none with state := .busy })).heap[w.heap.size]? = some (.deferred (some [])) := (World.putObj_heap_other (by omega)).trans hk
      refine wpIn_mono (hbody _ pre x _ (hM _ _ _ _ _ hi (by omega) hl rfl)) ?_
      have fin : ∀ (jump : Option Code) (W3 : World), KeepsFrom w.heap.size (W.putObj (w.heap.size + 1) (.loop { rec .ready none with state := .busy })) W3 →
          (Instr.endRound (w.heap.size + 1) jump).run P W3 = .ok (.bool jump.isNone) (W3.putObj (w.heap.size + 1) (.loop (rec (if jump.isNone then .ready else .done) jump))) ∧
          W3.heap[w.heap.size + 1]? = some (.loop { rec .ready none with state := .busy }) ∧
          (W3.putObj (w.heap.size + 1) (.loop (rec (if jump.isNone then .ready else .done) jump))).heap[w.heap.size + 1]? = some (.loop (rec (if jump.isNone then .ready else .done) jump)) ∧
          (W3.putObj (w.heap.size + 1) (.loop (rec (if jump.isNone then .ready else .done) jump))).heap[w.heap.size]? = some (.deferred (some [])) := fun jump W3 hk3 => by
        have hl3 := hk3.same _ _ (Nat.le_succ _) hl2 rfl
        have := run_endRound (P := P) jump hl3
        rw [hrec] at this ⊢
        exact ⟨this, by rw [hrec] at hl3; exact hl3, World.putObj_heap_same (Array.getElem?_eq_some_iff.1 hl3).1, (World.putObj_heap_other (by omega)).trans (hk3.same _ _ (Nat.le_refl _) hk2 rfl)⟩
      rintro e a3 W3 hp
      cases e with
      | normal =>
        obtain ⟨hk3, hi3⟩ := hp
        obtain ⟨hr, hl3, hl4, hk4⟩ := fin none W3 hk3
        exact ⟨_, _, hr, .inl ⟨rfl, hI.putObj _ hi3 (by omega) hl3 rfl, hl4, hk4⟩⟩
      | ret =>
        obtain ⟨hk3, hi3⟩ := hp
        obtain ⟨hr, hl3, hl4, hk4⟩ := fin (some .ret) W3 hk3
        exact ⟨_, _, hr, .inr ⟨rfl, .ret, hIx _ _ _ _ _ _ hi3 (by omega) hl3 rfl, hl4, hk4⟩⟩
      | exit id =>
        obtain ⟨hk3, hi3⟩ := hp
        obtain ⟨hr, hl3, hl4, hk4⟩ := fin (some (.exit id)) W3 hk3
        exact ⟨_, _, hr, .inr ⟨rfl, .exit id, hIx _ _ _ _ _ _ hi3 (by omega) hl3 rfl, hl4, hk4⟩⟩
      | goto t =>
        obtain ⟨hk3, hi3⟩ := hp
        obtain ⟨hr, hl3, hl4, hk4⟩ := fin (some (.goto t)) W3 hk3
        exact ⟨_, _, hr, .inr ⟨rfl, .goto t, hIx _ _ _ _ _ _ hi3 (by omega) hl3 rfl, hl4, hk4⟩⟩
      | panic ch => exact hp.elim
      | outgrown => exact hp.elim
    · rintro e W2 ⟨⟨v, rfl⟩, (⟨xs, hS, hi, hl, hk⟩ | ⟨c, pre, hi, hl, hk⟩)⟩
      · exact ⟨none, _, by have := run_endLoop (P := P) hl (by rw [hrec]; simp); rw [hrec] at this; exact this, hdone xs _ hS (hI.putObj _ hi (by omega) hl rfl) ((World.putObj_heap_other (by omega)).trans hk)⟩
      · exact ⟨some c, _, by have := run_endLoop (P := P) hl (by rw [hrec]; simp); rw [hrec] at this; exact this, hstop c pre _ (hIx c _ _ _ _ _ hi (by omega) hl rfl) ((World.putObj_heap_other (by omega)).trans hk)⟩
end Go.Proofs.YtdaojlipkffigaaGreatDoor
namespace Go.Proofs.YtdaojlipkffigaaGreatDoor
set_option linter.unusedVariables false
open Go Go.RowKit
theorem wp_range_none {P : Program} {g : Operand} {ps : Array Tmp} {assign body : Code} {Q : Exit → Act → World → Prop} {a : Act} {w : World}
    {gf : Nat} {lb : Array Value} (hg : a.eval g = .func (.func gf) #[] lb) (eg : ∀ args w, (callFunc gf args).run P w = .ok (.enter gf args) w)
    (J : World → Prop) (hJ : OwnFrom w.heap.size (fun (_ : List Empty) W => J W)) (h0 : J w)
    (hiter : ∀ y W, J W → Calls P gf (#[y] ++ lb) W fun e W' => (∃ v, e = .returned v) ∧ J W' ∧ KeepsFrom w.heap.size W W')
    (hdone : ∀ W, J W → W.heap[w.heap.size]? = some (.deferred (some [])) → Q .normal { a with defers := { target := .collected w.heap.size, args := #[] } :: a.defers } W) :
    (Code.rangeFunc g ps assign body).wp P Q a w := by
  refine (wpIn_wide (n := 3)).1 ?_
  refine wpIn_rangeFunc_inv (α := Empty) rfl (by omega) hg trivial eg (encs := fun x => x.elim) (fun x => x.elim) (S := fun _ => True) (fun _ W => J W) (fun _ _ => False) (fun _ _ _ => False) hJ (fun _ _ _ _ _ h => h.elim) (fun _ _ _ _ _ _ h => h.elim) h0 (fun x => x.elim) (fun _ x => x.elim) (fun _ _ x => x.elim) ?_ (fun xs W _ hI hd => hdone W hI hd) (fun _ _ _ h => h.elim)
  intro l R Rx hl hR hRx hlt hy W hI hr
  refine callsIn_wide.2 ((hiter _ W hI).mono ?_)
  rintro e W' ⟨hv, hj, hk⟩
  exact ⟨hv, Or.inl ⟨[], trivial, hj, hR _ _ hr hk⟩⟩
theorem calls_of_wp_marks {P : Program} {f : FuncId} {fn : Func} {c : Code} {args : Array Value} {w : World} {R : Ending → World → Prop} (hf : P.funcs[f]? = some fn) (hb : fn.body = some c)
    (h : c.wp P (bodyPostM Fence.wide 3 P fn R) { tmps := args ++ Array.replicate (fn.ntmps - args.size) undef, defers := [] } w) : Calls P f args w R :=
  (callsIn_wide (n := 3)).1 (callsIn_of_wp_marks hf hb trivial (wpIn_wide.2 h) rfl)
theorem But.putObj {L : List Nat} {a w : World} (h : But L a w) {l : Nat} (hl : a.heap.size ≤ l) (o : Obj) : But L a (w.putObj l o) := by
  have g := grownBy_putObj' w l o
  have hb : ∀ k, k < a.heap.size → (w.putObj l o).heap[k]? = w.heap[k]? := fun k hk => World.putObj_heap_other (by omega)
  refine ⟨h.os, h.tape, h.output, Nat.le_trans h.size (by simp), fun k hk hn => (hb k hk).trans (h.block k hk hn), fun k cs t ht hk => ?_⟩
  obtain ⟨c1, e1, b1⟩ := h.shape k cs t ht hk
  exact ⟨c1, e1, (hb k hk.lt0).trans b1⟩
end Go.Proofs.YtdaojlipkffigaaGreatDoor
namespace Go.Proofs.YtdaojlipkffigaaGreatDoor
set_option linter.unusedVariables false
set_option linter.unusedSimpArgs false
set_option maxRecDepth 100000
open Go Go.RowKit
set_option maxHeartbeats 4000000 in
theorem find_empty (gw : Nat) (b : Int) (r : Nat) (W : World) (hx : Blk W gw (winZ b) 96) :
    Calls Tryz.prog 45 #[.pointer (some ⟨gw, 0, none⟩), .int .u64 (r : Nat)] W fun e w' => e = .returned (.tuple #[.int .u64 0, .int .u64 0, .string ⟨#[]⟩, .int .i64 19]) ∧ But [] W w' := by
  have B0 := (((((But.refl [] W).alloc (.cells #[.int .u64 (r : Nat)] 22)).alloc (.cells #[.int .u64 0] 22)).alloc (.cells #[.int .u64 0] 22)).alloc (.cells #[.string ⟨#[]⟩] 9)).alloc (.cells #[.int .i64 0] 27)
  have A4 := (((Blk.new (W.alloc (.cells #[.int .u64 (r : Nat)] 22)) #[.int .u64 0] 22).alloc (.cells #[.int .u64 0] 22)).alloc (.cells #[.string ⟨#[]⟩] 9)).alloc (.cells #[.int .i64 0] 27)
  have A5 := ((Blk.new ((W.alloc (.cells #[.int .u64 (r : Nat)] 22)).alloc (.cells #[.int .u64 0] 22)) #[.int .u64 0] 22).alloc (.cells #[.string ⟨#[]⟩] 9)).alloc (.cells #[.int .i64 0] 27)
  have A6 := (Blk.new (((W.alloc (.cells #[.int .u64 (r : Nat)] 22)).alloc (.cells #[.int .u64 0] 22)).alloc (.cells #[.int .u64 0] 22)) #[.string ⟨#[]⟩] 9).alloc (.cells #[.int .i64 0] 27)
  have A7 := Blk.new ((((W.alloc (.cells #[.int .u64 (r : Nat)] 22)).alloc (.cells #[.int .u64 0] 22)).alloc (.cells #[.int .u64 0] 22)).alloc (.cells #[.string ⟨#[]⟩] 9)) #[.int .i64 0] 27
  simp only [World.size_alloc] at A4 A5 A6 A7
  have B0 := Shut.mk B0
  have A4 := Shut.mk A4
  have A5 := Shut.mk A5
  have A6 := Shut.mk A6
  have A7 := Shut.mk A7
  have HX := Shut.mk (hx.but B0.out (by simp))
  have HGW := Shut.mk hx.lt
  clear hx
  refine calls_of_wp_marks Tryz.func45 rfl ?_
  simp only [Tryz.ntmps45, List.size_toArray, List.length_cons, List.length_nil, Nat.reduceAdd, Nat.reduceSub, Array.replicate_succ, Array.replicate_zero, List.push_toArray, List.append_toArray, List.nil_append, List.cons_append]
  go_upto_region 3 with fail
  generalize ((((W.alloc (.cells #[.int .u64 (r : Nat)] 22)).alloc (.cells #[.int .u64 0] 22)).alloc (.cells #[.int .u64 0] 22)).alloc (.cells #[.string ⟨#[]⟩] 9)).alloc (.cells #[.int .i64 0] 27) = W0 at *
  obtain ⟨n, hn⟩ : ∃ n, n = W.heap.size := ⟨_, rfl⟩
  rw [← hn] at A4 A5 A6 A7 ⊢
  have hbz : Shut (W.heap.size ≤ n ∧ gw < n) := ⟨by have := HGW.out; omega⟩
  clear hn
  have c7 := A7.out.cell 0 rfl
  have f7 := A7.out.frozen 0
  have l7 := A7.out.lt
  have B1 := Shut.mk (B0.out.setCell (p := ⟨n + 1 + 1 + 1 + 1, 0, none⟩) (Or.inr (by have := hbz.out.1; simp; omega)) (.int .i64 19))
  have E4 := Shut.mk (A4.out.far (p := ⟨n + 1 + 1 + 1 + 1, 0, none⟩) (by simp; omega) (.int .i64 19))
  have E5 := Shut.mk (A5.out.far (p := ⟨n + 1 + 1 + 1 + 1, 0, none⟩) (by simp; omega) (.int .i64 19))
  have E6 := Shut.mk (A6.out.far (p := ⟨n + 1 + 1 + 1 + 1, 0, none⟩) (by simp) (.int .i64 19))
  have E7 : Shut (Blk (W0.setCell ⟨n + 1 + 1 + 1 + 1, 0, none⟩ (.int .i64 19)) (n + 1 + 1 + 1 + 1) #[.int .i64 19] 27) := ⟨by have := A7.out.set 0 (.int .i64 19); simpa using this⟩
  have HX1 : Shut (Blk (W0.setCell ⟨n + 1 + 1 + 1 + 1, 0, none⟩ (.int .i64 19)) gw (winZ b) 96) := ⟨HX.out.far (p := ⟨n + 1 + 1 + 1 + 1, 0, none⟩) (by have := hbz.out.2; simp; omega) _⟩
  clear B0 A4 A5 A6 A7
  go_upto_region 4 with fail
  clear c7 f7 l7
  generalize W0.setCell ⟨n + 1 + 1 + 1 + 1, 0, none⟩ (.int .i64 19) = W1 at *
  go_wp2_with fail
  refine (wall_any gw _).mono ?_
  rintro e w2 ⟨rfl, hw2⟩
  have N2 : Shut (Blk w2 W1.heap.size #[.pointer (some ⟨gw, 0, none⟩)] 57) := ⟨by rw [hw2]; exact Blk.new W1 _ _⟩
  have X2 : Shut (Blk w2 gw (winZ b) 96) := ⟨by rw [hw2]; exact HX1.out.alloc _⟩
  have E4 : Shut (Blk w2 (n + 1) #[.int .u64 0] 22) := ⟨by rw [hw2]; exact E4.out.alloc _⟩
  have E5 : Shut (Blk w2 (n + 1 + 1) #[.int .u64 0] 22) := ⟨by rw [hw2]; exact E5.out.alloc _⟩
  have E6 : Shut (Blk w2 (n + 1 + 1 + 1) #[.string ⟨#[]⟩] 9) := ⟨by rw [hw2]; exact E6.out.alloc _⟩
  have E7 : Shut (Blk w2 (n + 1 + 1 + 1 + 1) #[.int .i64 19] 27) := ⟨by rw [hw2]; exact E7.out.alloc _⟩
  have B2 : Shut (But [] W w2) := ⟨by rw [hw2]; exact B1.out.alloc _⟩
  go_wp2_with fail
  rw [← hw2]
  clear hw2 B1 HX1
  generalize W1.heap.size = gb at *
  refine wp_range_none rfl (fun _ _ => rfl) (fun W' => Below w2.heap.size w2 W') ((ownFrom_below (Nat.le_refl _) (Nat.le_refl _))) (Below.refl _ _) ?_ ?_
  · intro y W1 hl
    exact (iter_empty y gb gw b W1 (N2.out.later hl) (X2.out.later hl)).mono (by
      rintro e w' ⟨rfl, h⟩
      exact ⟨⟨_, rfl⟩, Later.trans (show Later w2 W1 from hl) h, ⟨h.size, fun k o _ hk _ => by rw [← hk]; exact h.block k (Array.getElem?_eq_some_iff.1 hk).1⟩⟩)
  intro W3 hl hd
  have H4 := Shut.mk (E4.out.later hl)
  have H5 := Shut.mk (E5.out.later hl)
  have H6 := Shut.mk (E6.out.later hl)
  have H7 := Shut.mk (E7.out.later hl)
  have B3 := Shut.mk (B2.out.trans (But.ofBelow hl))
  have S2 : Shut (W.heap.size ≤ w2.heap.size ∧ n + 1 + 1 + 1 + 1 < w2.heap.size) := ⟨B2.out.size, E7.out.lt⟩
  have HD := Shut.mk hd
  clear hl hd E4 E5 E6 E7 N2 X2 B2
  have l4 := H4.out.lt
  have l5 := H5.out.lt
  have l6 := H6.out.lt
  have l7 := H7.out.lt
  have c4 := H4.out.cell 0 rfl
  have c5 := H5.out.cell 0 rfl
  have c6 := H6.out.cell 0 rfl
  have c7 := H7.out.cell 0 rfl
  have f4 := H4.out.frozen 0
  have f5 := H5.out.frozen 0
  have f6 := H6.out.frozen 0
  have f7 := H7.out.frozen 0
  go_wp2_with fail
  have hne1 : n + 1 ≠ n + 1 + 1 + 1 + 1 := by omega
  have hne2 : n + 1 + 1 ≠ n + 1 + 1 + 1 + 1 := by omega
  have hne3 : n + 1 + 1 + 1 ≠ n + 1 + 1 + 1 + 1 := by omega
  go_region
  have G4 : Shut (Blk ((((W3.setCell ⟨n + 1, 0, none⟩ (.int .u64 0)).setCell ⟨n + 1 + 1, 0, none⟩ (.int .u64 0)).setCell ⟨n + 1 + 1 + 1, 0, none⟩ (.string ⟨#[]⟩)).setCell ⟨n + 1 + 1 + 1 + 1, 0, none⟩ (.int .i64 19)).drew (n + 1) #[.int .u64 0] 22) := ⟨by have := ((((H4.out.set 0 (.int .u64 0)).far (p := ⟨n + 1 + 1, 0, none⟩) (by simp <;> omega) (.int .u64 0)).far (p := ⟨n + 1 + 1 + 1, 0, none⟩) (by simp <;> omega) (.string ⟨#[]⟩)).far (p := ⟨n + 1 + 1 + 1 + 1, 0, none⟩) (by simp <;> omega) (.int .i64 19)).drew; simpa using this⟩
  have G5 : Shut (Blk ((((W3.setCell ⟨n + 1, 0, none⟩ (.int .u64 0)).setCell ⟨n + 1 + 1, 0, none⟩ (.int .u64 0)).setCell ⟨n + 1 + 1 + 1, 0, none⟩ (.string ⟨#[]⟩)).setCell ⟨n + 1 + 1 + 1 + 1, 0, none⟩ (.int .i64 19)).drew (n + 1 + 1) #[.int .u64 0] 22) := ⟨by have := ((((H5.out.far (p := ⟨n + 1, 0, none⟩) (by simp <;> omega) (.int .u64 0)).set 0 (.int .u64 0)).far (p := ⟨n + 1 + 1 + 1, 0, none⟩) (by simp <;> omega) (.string ⟨#[]⟩)).far (p := ⟨n + 1 + 1 + 1 + 1, 0, none⟩) (by simp <;> omega) (.int .i64 19)).drew; simpa using this⟩
  have G6 : Shut (Blk ((((W3.setCell ⟨n + 1, 0, none⟩ (.int .u64 0)).setCell ⟨n + 1 + 1, 0, none⟩ (.int .u64 0)).setCell ⟨n + 1 + 1 + 1, 0, none⟩ (.string ⟨#[]⟩)).setCell ⟨n + 1 + 1 + 1 + 1, 0, none⟩ (.int .i64 19)).drew (n + 1 + 1 + 1) #[.string ⟨#[]⟩] 9) := ⟨by have := ((((H6.out.far (p := ⟨n + 1, 0, none⟩) (by simp <;> omega) (.int .u64 0)).far (p := ⟨n + 1 + 1, 0, none⟩) (by simp <;> omega) (.int .u64 0)).set 0 (.string ⟨#[]⟩)).far (p := ⟨n + 1 + 1 + 1 + 1, 0, none⟩) (by simp <;> omega) (.int .i64 19)).drew; simpa using this⟩
  have G7 : Shut (Blk ((((W3.setCell ⟨n + 1, 0, none⟩ (.int .u64 0)).setCell ⟨n + 1 + 1, 0, none⟩ (.int .u64 0)).setCell ⟨n + 1 + 1 + 1, 0, none⟩ (.string ⟨#[]⟩)).setCell ⟨n + 1 + 1 + 1 + 1, 0, none⟩ (.int .i64 19)).drew (n + 1 + 1 + 1 + 1) #[.int .i64 19] 27) := ⟨by have := ((((H7.out.far (p := ⟨n + 1, 0, none⟩) (by simp <;> omega) (.int .u64 0)).far (p := ⟨n + 1 + 1, 0, none⟩) (by simp <;> omega) (.int .u64 0)).far (p := ⟨n + 1 + 1 + 1, 0, none⟩) (by simp <;> omega) (.string ⟨#[]⟩)).set 0 (.int .i64 19)).drew; simpa using this⟩
  have BB := Shut.mk ((((B3.out.setCell (p := ⟨n + 1, 0, none⟩) (Or.inr (by have := hbz.out.1; simp; omega)) (.int .u64 0)).setCell (p := ⟨n + 1 + 1, 0, none⟩) (Or.inr (by have := hbz.out.1; simp; omega)) (.int .u64 0)).setCell (p := ⟨n + 1 + 1 + 1, 0, none⟩) (Or.inr (by have := hbz.out.1; simp; omega)) (.string ⟨#[]⟩)).setCell (p := ⟨n + 1 + 1 + 1 + 1, 0, none⟩) (Or.inr (by have := hbz.out.1; simp; omega)) (.int .i64 19)).drew
  have hdw : Shut (((((W3.setCell ⟨n + 1, 0, none⟩ (.int .u64 0)).setCell ⟨n + 1 + 1, 0, none⟩ (.int .u64 0)).setCell ⟨n + 1 + 1 + 1, 0, none⟩ (.string ⟨#[]⟩)).setCell ⟨n + 1 + 1 + 1 + 1, 0, none⟩ (.int .i64 19)).drew.heap[w2.heap.size]? = some (.deferred (some []))) := ⟨by
    have hl4 := S2.out.2
    show (((((W3.setCell ⟨n + 1, 0, none⟩ (.int .u64 0)).setCell ⟨n + 1 + 1, 0, none⟩ (.int .u64 0)).setCell ⟨n + 1 + 1 + 1, 0, none⟩ (.string ⟨#[]⟩)).setCell ⟨n + 1 + 1 + 1 + 1, 0, none⟩ (.int .i64 19))).heap[w2.heap.size]? = _
    rw [Below.heap_setCell _ _ _ _ (by simp; omega), Below.heap_setCell _ _ _ _ (by simp; omega), Below.heap_setCell _ _ _ _ (by simp; omega), Below.heap_setCell _ _ _ _ (by simp; omega)]
    exact HD.out⟩
  clear H4 H5 H6 H7 B3 HD l4 l5 l6 l7 c4 c5 c6 c7 f4 f5 f6 f7
  generalize ((((W3.setCell ⟨n + 1, 0, none⟩ (.int .u64 0)).setCell ⟨n + 1 + 1, 0, none⟩ (.int .u64 0)).setCell ⟨n + 1 + 1 + 1, 0, none⟩ (.string ⟨#[]⟩)).setCell ⟨n + 1 + 1 + 1 + 1, 0, none⟩ (.int .i64 19)).drew = W5 at *
  have c4 := G4.out.cell 0 rfl
  have c5 := G5.out.cell 0 rfl
  have c6 := G6.out.cell 0 rfl
  have c7 := G7.out.cell 0 rfl
  have e4 := Blk.cell ((show Blk (W5.putObj w2.heap.size (.deferred none)) (n + 1) #[.int .u64 0] 22 from (World.putObj_heap_other (by have := S2.out.2; omega)).trans G4.out)) 0 rfl
  have e5 := Blk.cell ((show Blk (W5.putObj w2.heap.size (.deferred none)) (n + 1 + 1) #[.int .u64 0] 22 from (World.putObj_heap_other (by have := S2.out.2; omega)).trans G5.out)) 0 rfl
  have e6 := Blk.cell ((show Blk (W5.putObj w2.heap.size (.deferred none)) (n + 1 + 1 + 1) #[.string ⟨#[]⟩] 9 from (World.putObj_heap_other (by have := S2.out.2; omega)).trans G6.out)) 0 rfl
  have e7 := Blk.cell ((show Blk (W5.putObj w2.heap.size (.deferred none)) (n + 1 + 1 + 1 + 1) #[.int .i64 19] 27 from (World.putObj_heap_other (by have := S2.out.2; omega)).trans G7.out)) 0 rfl
  go_wp2_with fail
  refine ⟨by simp, .inl ⟨_, _, rfl, run_takeDeferred hdw.out, ?_⟩⟩
  have hp := BB.out.putObj S2.out.1 (.deferred none)
  generalize W5.putObj w2.heap.size (.deferred none) = W6 at *
  exact ⟨.tuple #[.int .u64 0, .int .u64 0, .string ⟨#[]⟩, .int .i64 19], (by simp [results, Tryz.results45, go_sem, e4, e5, e6, e7]), rfl, hp⟩
end Go.Proofs.YtdaojlipkffigaaGreatDoor
namespace Go.Proofs.YtdaojlipkffigaaGreatDoor
set_option linter.unusedVariables false
set_option linter.unusedSimpArgs false
set_option maxRecDepth 100000
open Go Go.RowKit
set_option maxHeartbeats 4000000 in
theorem header_none (mc : LM) (g gw s : Nat) (a b : Int) (S : List UInt8) (p : Value) (B : Nat) (W : World) (hT : Tabs B W) (hB : B ≤ W.heap.size) (hE : ErrT W) (hS : S.length < 1000000) (rs : List (Nat × Rd1)) (ho : hdrOf S = some rs)
    (hx : Blk W g (pC mc gw s a) 60) (hy : Blk W gw (winZ b) 96) :
    Calls Tryz.prog 18 #[.pointer (some ⟨g, 0, none⟩), .string (mkS S), p] W fun r w' => r = .returned (.tuple #[.agg hdr0, .int .i64 19]) ∧ But [] W w' := by
  have B0 := Shut.mk ((But.refl [] W).alloc (.cells hdr0 48))
  have RD := Shut.mk (readHeader_any B S (W.alloc (.cells hdr0 48)) (by omega) (hT.below (B0.out.below hB (by simp))) (Nat.le_trans hB B0.out.size) (hE.but B0.out (by simp)))
  have HO := Shut.mk ho
  have X0 := Shut.mk (Blk.new W hdr0 48)
  have C0 := Shut.mk (hx.alloc (.cells hdr0 48))
  have V0 := Shut.mk (hy.alloc (.cells hdr0 48))
  clear hT hB hE hS ho hx hy
  rw [hdr0] at *
  go_enter Tryz.func18, Tryz.ntmps18
  go_wp2_with fail
  refine RD.out.mono ?_
  rintro r w1 ⟨v, rfl, hv, hb⟩
  have hv2 := hv
  simp only [HdrAns, HO.out] at hv2
  subst hv2
  have X1 := Shut.mk (X0.out.but hb (by simp))
  have C1 := Shut.mk (C0.out.but hb (by simp))
  have V1 := Shut.mk (V0.out.but hb (by simp))
  have B1 := Shut.mk (B0.out.trans hb)
  rw [hdrCells]
  generalize mkS (txtAt rs 0) = t0 at *
  generalize mkS (txtAt rs 2) = t2 at *
  generalize mkS (txtAt rs 3) = t3 at *
  generalize numAt rs 1 = n1 at *
  obtain ⟨z, hz⟩ : ∃ z, z = W.heap.size := ⟨_, rfl⟩
  rw [← hz] at X1 ⊢
  have HZ : Shut (W.heap.size ≤ z) := ⟨by omega⟩
  clear hz
  clear hb hv RD HO X0 C0 V0
  go_upto_region 4 with fail
  have R2 := Shut.mk (Blk.new w1 #[.int .u64 (n1 : Nat), .string t0, .string t3, .string t2] 48)
  have hb2 := (But.refl [] w1).alloc (.cells #[.int .u64 (n1 : Nat), .string t0, .string t3, .string t2] 48)
  generalize w1.alloc (.cells #[.int .u64 (n1 : Nat), .string t0, .string t3, .string t2] 48) = w2 at *
  generalize w1.heap.size = h8 at *
  have X2 := Shut.mk (X1.out.but hb2 (by simp)).drew
  have C2 := Shut.mk (C1.out.but hb2 (by simp)).drew
  have V2 := Shut.mk (V1.out.but hb2 (by simp)).drew
  have R2 := Shut.mk R2.out.drew
  have B2 := Shut.mk (B1.out.trans hb2).drew
  clear hb2 X1 C1 V1 B1
  go_wp2_with fail
  have CE : Shut (∀ W1, Later w2.drew W1 → W1.cell? ⟨g, 6, none⟩ = some (.pointer (some ⟨gw, 0, none⟩)) ∧ W1.cell? ⟨h8, 0, none⟩ = some (.int .u64 (n1 : Nat))) := ⟨fun W1 hl => ⟨(C2.out.later hl).cell 6 rfl, (R2.out.later hl).cell 0 rfl⟩⟩
  have FD : Shut (∀ W1, Later w2.drew W1 → Calls Tryz.prog 45 #[.pointer (some ⟨gw, 0, none⟩), .int .u64 (n1 : Nat)] W1 fun e w' => e = .returned (.tuple #[.int .u64 0, .int .u64 0, .string ⟨#[]⟩, .int .i64 19]) ∧ Later W1 w') := ⟨fun W1 hl => (find_empty gw b n1 W1 (V2.out.later hl)).mono (by rintro e w' ⟨rfl, hb⟩; exact ⟨rfl, hb.later⟩)⟩
  clear C2 V2 R2
  refine wp_region_later (by kernel_rfl) [] ?_
  refine wpAnyB_take (i := 0) (v := ?_) rfl (by kernel_rfl) (by kernel_rfl) (by kernel_rfl) (fun _ _ _ h => h) (by kernel_rfl) (fix_value (by rfl) ?_) ?_
  rotate_left
  · (intro W1 hl; obtain ⟨q0, q1⟩ := CE.out W1 hl; go_simp <;> with_reducible rfl)
  try simp only [List.getElem_toArray, List.getElem_cons_zero, List.getElem_cons_succ, Act.put, List.setIfInBounds_toArray, List.set_cons_zero, List.set_cons_succ]
  refine wpAnyB_take (i := 1) (v := ?_) rfl (by kernel_rfl) (by kernel_rfl) (by kernel_rfl) (fun _ _ _ h => h) (by kernel_rfl) (fix_value (by rfl) ?_) ?_
  rotate_left
  · (intro W1 hl; obtain ⟨q0, q1⟩ := CE.out W1 hl; go_simp <;> with_reducible rfl)
  try simp only [List.getElem_toArray, List.getElem_cons_zero, List.getElem_cons_succ, Act.put, List.setIfInBounds_toArray, List.set_cons_zero, List.set_cons_succ]
  refine wpAnyB_take (i := 2) (v := ?_) rfl (by kernel_rfl) (by kernel_rfl) (by kernel_rfl) (fun _ _ _ h => h) (by kernel_rfl) (fix_value (by rfl) ?_) ?_
  rotate_left
  · (intro W1 hl; obtain ⟨q0, q1⟩ := CE.out W1 hl; go_simp <;> with_reducible rfl)
  try simp only [List.getElem_toArray, List.getElem_cons_zero, List.getElem_cons_succ, Act.put, List.setIfInBounds_toArray, List.set_cons_zero, List.set_cons_succ]
  refine wpAnyB_take (i := 3) (v := ?_) rfl (by kernel_rfl) (by kernel_rfl) (by kernel_rfl) (fun _ _ _ h => h) (by kernel_rfl) (fix_value (by rfl) ?_) ?_
  rotate_left
  · (intro W1 hl; obtain ⟨q0, q1⟩ := CE.out W1 hl; go_simp <;> with_reducible rfl)
  try simp only [List.getElem_toArray, List.getElem_cons_zero, List.getElem_cons_succ, Act.put, List.setIfInBounds_toArray, List.set_cons_zero, List.set_cons_succ]
  refine wpAnyB_take (i := 4) (v := ?_) rfl (by kernel_rfl) (by kernel_rfl) (by kernel_rfl) (fun _ _ _ h => h) (by kernel_rfl) (fix_value (by rfl) ?_) ?_
  rotate_left
  · (intro W1 hl; obtain ⟨q0, q1⟩ := CE.out W1 hl; go_simp <;> with_reducible rfl)
  try simp only [List.getElem_toArray, List.getElem_cons_zero, List.getElem_cons_succ, Act.put, List.setIfInBounds_toArray, List.set_cons_zero, List.set_cons_succ]
  refine wpAnyB_take (i := 5) (v := ?_) rfl (by kernel_rfl) (by kernel_rfl) (by kernel_rfl) (fun _ _ _ h => h) (by kernel_rfl) (fix_value (by rfl) ?_) ?_
  rotate_left
  · (intro W1 hl; obtain ⟨q0, q1⟩ := CE.out W1 hl; go_simp <;> with_reducible rfl)
  try simp only [List.getElem_toArray, List.getElem_cons_zero, List.getElem_cons_succ, Act.put, List.setIfInBounds_toArray, List.set_cons_zero, List.set_cons_succ]
  refine wpAnyB_take (i := 6) (v := _) rfl (by kernel_rfl) (by kernel_rfl) (by kernel_rfl) (fun _ _ _ h => h) (by kernel_rfl) (fix_enter (by rfl) (fun W1 hl => FD.out W1 hl) ?_) ?_
  · (intro W1 hl; go_simp <;> with_reducible rfl)
  try simp only [List.getElem_toArray, List.getElem_cons_zero, List.getElem_cons_succ, Act.put, List.setIfInBounds_toArray, List.set_cons_zero, List.set_cons_succ]
  refine wpAnyB_take (i := 7) (v := ?_) rfl (by kernel_rfl) (by kernel_rfl) (by kernel_rfl) (fun _ _ _ h => h) (by kernel_rfl) (fix_value (by rfl) ?_) ?_
  rotate_left
  · (intro W1 hl; go_simp <;> with_reducible rfl)
  try simp only [List.getElem_toArray, List.getElem_cons_zero, List.getElem_cons_succ, Act.put, List.setIfInBounds_toArray, List.set_cons_zero, List.set_cons_succ]
  refine wpAnyB_take (i := 8) (v := ?_) rfl (by kernel_rfl) (by kernel_rfl) (by kernel_rfl) (fun _ _ _ h => h) (by kernel_rfl) (fix_value (by rfl) ?_) ?_
  rotate_left
  · (intro W1 hl; go_simp <;> with_reducible rfl)
  try simp only [List.getElem_toArray, List.getElem_cons_zero, List.getElem_cons_succ, Act.put, List.setIfInBounds_toArray, List.set_cons_zero, List.set_cons_succ]
  refine wpAnyB_take (i := 9) (v := ?_) rfl (by kernel_rfl) (by kernel_rfl) (by kernel_rfl) (fun _ _ _ h => h) (by kernel_rfl) (fix_value (by rfl) ?_) ?_
  rotate_left
  · (intro W1 hl; go_simp <;> with_reducible rfl)
  try simp only [List.getElem_toArray, List.getElem_cons_zero, List.getElem_cons_succ, Act.put, List.setIfInBounds_toArray, List.set_cons_zero, List.set_cons_succ]
  refine wpAnyB_take (i := 10) (v := ?_) rfl (by kernel_rfl) (by kernel_rfl) (by kernel_rfl) (fun _ _ _ h => h) (by kernel_rfl) (fix_value (by rfl) ?_) ?_
  rotate_left
  · (intro W1 hl; go_simp <;> with_reducible rfl)
  try simp only [List.getElem_toArray, List.getElem_cons_zero, List.getElem_cons_succ, Act.put, List.setIfInBounds_toArray, List.set_cons_zero, List.set_cons_succ]
  refine wpAnyB_take (i := 11) (v := ?_) rfl (by kernel_rfl) (by kernel_rfl) (by kernel_rfl) (fun _ _ _ h => h) (by kernel_rfl) (fix_value (by rfl) ?_) ?_
  rotate_left
  · (intro W1 hl; go_simp <;> with_reducible rfl)
  try simp only [List.getElem_toArray, List.getElem_cons_zero, List.getElem_cons_succ, Act.put, List.setIfInBounds_toArray, List.set_cons_zero, List.set_cons_succ]
  refine wpAnyB_take (i := 12) (v := ?_) rfl (by kernel_rfl) (by kernel_rfl) (by kernel_rfl) (fun _ _ _ h => h) (by kernel_rfl) (fix_value (by rfl) ?_) ?_
  rotate_left
  · (intro W1 hl; go_simp <;> with_reducible rfl)
  try simp only [List.getElem_toArray, List.getElem_cons_zero, List.getElem_cons_succ, Act.put, List.setIfInBounds_toArray, List.set_cons_zero, List.set_cons_succ]
  refine wpAnyB_take (i := 13) (v := ?_) rfl (by kernel_rfl) (by kernel_rfl) (by kernel_rfl) (fun _ _ _ h => h) (by kernel_rfl) (fix_value (by rfl) ?_) ?_
  rotate_left
  · (intro W1 hl; go_simp <;> with_reducible rfl)
  try simp only [List.getElem_toArray, List.getElem_cons_zero, List.getElem_cons_succ, Act.put, List.setIfInBounds_toArray, List.set_cons_zero, List.set_cons_succ]
  refine wpAnyB_take (i := 14) (v := ?_) rfl (by kernel_rfl) (by kernel_rfl) (by kernel_rfl) (fun _ _ _ h => h) (by kernel_rfl) (fix_value (by rfl) ?_) ?_
  rotate_left
  · (intro W1 hl; go_simp <;> with_reducible rfl)
  try simp only [List.getElem_toArray, List.getElem_cons_zero, List.getElem_cons_succ, Act.put, List.setIfInBounds_toArray, List.set_cons_zero, List.set_cons_succ]
  refine wpAnyB_take (i := 15) (v := ?_) rfl (by kernel_rfl) (by kernel_rfl) (by kernel_rfl) (fun _ _ _ h => h) (by kernel_rfl) (fix_value (by rfl) ?_) ?_
  rotate_left
  · (intro W1 hl; go_simp <;> with_reducible rfl)
  try simp only [List.getElem_toArray, List.getElem_cons_zero, List.getElem_cons_succ, Act.put, List.setIfInBounds_toArray, List.set_cons_zero, List.set_cons_succ]
  refine wpAnyB_done (by kernel_rfl) (fun w5 hl4 => ?_) _
  try simp only [List.getElem_toArray, List.getElem_cons_zero, List.getElem_cons_succ, Act.put, List.setIfInBounds_toArray, List.set_cons_zero, List.set_cons_succ]
  have X5 := Shut.mk (X2.out.later hl4)
  have B5 := Shut.mk (B2.out.trans (But.ofBelow hl4))
  have c0 : w5.cell? ⟨z, 0, none⟩ = some (.int .u64 0) := X5.out.cell 0 rfl
  have c1 : w5.cell? ⟨z, 1, none⟩ = some (.string ⟨#[]⟩) := X5.out.cell 1 rfl
  have c2 : w5.cell? ⟨z, 2, none⟩ = some (.string ⟨#[]⟩) := X5.out.cell 2 rfl
  have c3 : w5.cell? ⟨z, 3, none⟩ = some (.string ⟨#[]⟩) := X5.out.cell 3 rfl
  have f0 := X5.out.frozen 0
  have f1 := X5.out.frozen 1
  have f2 := X5.out.frozen 2
  have f3 := X5.out.frozen 3
  have l0 := X5.out.lt
  clear hl4 X2 B2 CE FD
  go_wp2_with fail
  have hx : Blk ((((w5.setCell ⟨z, 0, none⟩ (.int .u64 0)).setCell ⟨z, 1, none⟩ (.string ⟨#[]⟩)).setCell ⟨z, 2, none⟩ (.string ⟨#[]⟩)).setCell ⟨z, 3, none⟩ (.string ⟨#[]⟩)) z #[.int .u64 0, .string ⟨#[]⟩, .string ⟨#[]⟩, .string ⟨#[]⟩] 48 := by
    have := (((X5.out.set 0 (.int .u64 0)).set 1 (.string ⟨#[]⟩)).set 2 (.string ⟨#[]⟩)).set 3 (.string ⟨#[]⟩)
    rwa [four_set _ rfl] at this
  have hb5 : But [] W ((((w5.setCell ⟨z, 0, none⟩ (.int .u64 0)).setCell ⟨z, 1, none⟩ (.string ⟨#[]⟩)).setCell ⟨z, 2, none⟩ (.string ⟨#[]⟩)).setCell ⟨z, 3, none⟩ (.string ⟨#[]⟩)) := four_butc B5.out HZ.out
  generalize ((((w5.setCell ⟨z, 0, none⟩ (.int .u64 0)).setCell ⟨z, 1, none⟩ (.string ⟨#[]⟩)).setCell ⟨z, 2, none⟩ (.string ⟨#[]⟩)).setCell ⟨z, 3, none⟩ (.string ⟨#[]⟩)) = w6 at *
  have x0 : w6.cell? ⟨z, 0, none⟩ = some (.int .u64 0) := hx.cell 0 rfl
  have x1 : w6.cell? ⟨z, 1, none⟩ = some (.string ⟨#[]⟩) := hx.cell 1 rfl
  have x2 : w6.cell? ⟨z, 2, none⟩ = some (.string ⟨#[]⟩) := hx.cell 2 rfl
  have x3 : w6.cell? ⟨z, 3, none⟩ = some (.string ⟨#[]⟩) := hx.cell 3 rfl
  clear hx
  exact bodyPost_ret (v := .tuple #[.agg #[.int .u64 0, .string ⟨#[]⟩, .string ⟨#[]⟩, .string ⟨#[]⟩], .int .i64 19]) (by simp [results, Tryz.results18, go_sem, x0, x1, x2, x3]) rfl ⟨rfl, hb5⟩
end Go.Proofs.YtdaojlipkffigaaGreatDoor
namespace Go.Proofs.YtdaojlipkffigaaGreatDoor
set_option linter.unusedVariables false
set_option linter.unusedSimpArgs false
set_option maxRecDepth 100000
open Go Go.RowKit
theorem do_nil (v0 v1 v2 v3 v4 v5 v6 v7 v8 : Value) (W : World) : Calls Tryz.prog 19 #[.pointer none, .agg #[v0, v1, v2, v3, v4, v5, v6, v7, v8]] W fun r w' => r = .returned (.int .i64 1) ∧ But [] W w' := by
  have B0 := Shut.mk ((But.refl [] W).alloc (.cells #[v0, v1, v2, v3, v4, v5, v6, v7, v8] 54))
  go_enter Tryz.func19, Tryz.ntmps19
  go_wp2_with fail
  go_ret
  exact ⟨rfl, B0.out⟩
theorem do_high (g : Nat) (v1 v2 v3 v4 v5 v6 v7 v8 : Value) (W : World) : Calls Tryz.prog 19 #[.pointer (some ⟨g, 0, none⟩), .agg #[.int .i64 3, v1, v2, v3, v4, v5, v6, v7, v8]] W fun r w' => r = .returned (.int .i64 2) ∧ But [] W w' := by
  have B0 := Shut.mk ((But.refl [] W).alloc (.cells #[.int .i64 3, v1, v2, v3, v4, v5, v6, v7, v8] 54))
  have X0 := Blk.new W #[.int .i64 3, v1, v2, v3, v4, v5, v6, v7, v8] 54
  go_enter Tryz.func19, Tryz.ntmps19
  go_upto_region 3 with fail
  generalize W.alloc (.cells #[.int .i64 3, v1, v2, v3, v4, v5, v6, v7, v8] 54) = w0 at *
  generalize hs : W.heap.size = b at *
  have hb : Shut (W.heap.size ≤ w0.heap.size) := ⟨B0.out.size⟩
  have c0 := X0.cell 0 rfl
  have l0 := X0.lt
  clear hs X0
  go_wp2_with fail
  go_ret
  exact ⟨rfl, B0.out.alloc _⟩
theorem do_low (g : Nat) (v1 v2 v3 v4 v5 v6 v7 v8 : Value) (W : World) : Calls Tryz.prog 19 #[.pointer (some ⟨g, 0, none⟩), .agg #[.int .i64 (-1), v1, v2, v3, v4, v5, v6, v7, v8]] W fun r w' => r = .returned (.int .i64 2) ∧ But [] W w' := by
  have B0 := Shut.mk ((But.refl [] W).alloc (.cells #[.int .i64 (-1), v1, v2, v3, v4, v5, v6, v7, v8] 54))
  have X0 := Blk.new W #[.int .i64 (-1), v1, v2, v3, v4, v5, v6, v7, v8] 54
  go_enter Tryz.func19, Tryz.ntmps19
  go_upto_region 3 with fail
  generalize W.alloc (.cells #[.int .i64 (-1), v1, v2, v3, v4, v5, v6, v7, v8] 54) = w0 at *
  generalize hs : W.heap.size = b at *
  have hb : Shut (W.heap.size ≤ w0.heap.size) := ⟨B0.out.size⟩
  have c0 := X0.cell 0 rfl
  have l0 := X0.lt
  clear hs X0
  go_wp2_with fail
  go_ret
  exact ⟨rfl, B0.out.alloc _⟩
end Go.Proofs.YtdaojlipkffigaaGreatDoor
