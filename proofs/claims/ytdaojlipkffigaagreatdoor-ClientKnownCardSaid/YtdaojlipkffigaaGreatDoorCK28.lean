/- HU, HV, HW, HX, HY, HZ, HZa: merged by merge.py. -/
import Derived.Test.YtdaojlipkffigaaGreatDoorCK25
import Derived.Test.YtdaojlipkffigaaGreatDoorCK27
namespace Go.Proofs.YtdaojlipkffigaaGreatDoor
set_option linter.unusedVariables false
set_option linter.unusedSimpArgs false
set_option maxRecDepth 100000
open Go Go.RowKit
structure LM.ok (m : LM) : Prop where
  c : m.c < 18446744073709551616
  w : m.w < 18446744073709551616
  f : m.f < 18446744073709551616
  l : m.l < 18446744073709551616
theorem kvs_len (m : LM) (hm : m.ok) (hh : m.h.length = 32) (hp : m.p.length = 32) : (wholeB (msgKv m)).length < 400 := by
  unfold wholeB msgKv
  have hc := kvc_le (msgKv m)
  unfold msgKv at hc
  simp only [List.length_cons, List.length_nil] at hc
  rw [List.length_append, headB_4_0 _ (by omega)]
  simp only [kvs, List.length_append, List.length_cons, List.length_nil]
  have a1 := kvB_len [102] (nbB m.f) (by simp)
  have a2 := kvB_len [104] (binB m.h) (by simp)
  have a3 := kvB_len [108] (nbB m.l) (by simp)
  have a4 := kvB_len [110] (nbB m.c) (by simp)
  have a5 := kvB_len [118] (binB m.p) (by simp)
  have a6 := kvB_len [119] (nbB m.w) (by simp)
  have b1 := nbB_len m.f hm.f
  have b2 := nbB_len m.l hm.l
  have b3 := nbB_len m.c hm.c
  have b4 := nbB_len m.w hm.w
  have b5 := binB_len m.h (by omega)
  have b6 := binB_len m.p (by omega)
  simp only [List.length_cons, List.length_nil] at a1 a2 a3 a4 a5 a6
  omega
def msgV (m : LM) : Value := if m.h.length = 32 ∧ m.p.length = 32 then .tuple #[.string (mkS (wholeB (msgKv m))), .int .i64 0] else .tuple #[.string (mkS []), .int .i64 2]
theorem encM_any (m : LM) (B : Nat) (W : World) (hT : PackT B W) (hB : B ≤ W.heap.size) (hm : m.ok) :
    Calls Tryz.prog 15 #[msgAgg m] W fun e w' => e = .returned (msgV m) ∧ But [] W w' := by
  unfold msgV
  by_cases h : m.h.length = 32 ∧ m.p.length = 32
  · rw [if_pos h]
    have he := msgB_eq m (by omega) (by omega)
    have hl := kvs_len m hm h.1 h.2
    have := encMsg_any m B W hT hB (by omega) (by omega) hm.c hm.w hm.f hm.l (by rw [he]; omega)
    rw [mMy_eq, decide_eq_true h.1, decide_eq_true h.2, he] at this
    exact this
  · rw [if_neg h]
    exact encMsg_no m W h hm.c hm.w hm.f hm.l
def mayB (m : LM) : Bool := decide (m.h.length = 32 ∧ m.p.length = 32) && decide (0 < m.c) && decide (m.c ≤ 65536) && decide (0 < m.w) && decide (m.f ≤ m.l) && decide (m.l - m.f < 64) && decide (m.l < 18446744073709551615)
set_option maxHeartbeats 4000000 in
theorem may_any (m : LM) (B : Nat) (W : World) (hT : PackT B W) (hB : B ≤ W.heap.size) (hm : m.ok) :
    Calls Tryz.prog 22 #[msgAgg m] W fun e w' => e = .returned (.bool (mayB m)) ∧ But [] W w' := by
  have B00 := (But.refl [] W).alloc (.cells #[.string (mkS m.h), .string (mkS m.p), .int .u64 (m.c : Nat), .int .u64 (m.w : Nat), .int .u64 (m.f : Nat), .int .u64 (m.l : Nat)] 24)
  have E := Shut.mk (encM_any m B (W.alloc (.cells #[.string (mkS m.h), .string (mkS m.p), .int .u64 (m.c : Nat), .int .u64 (m.w : Nat), .int .u64 (m.f : Nat), .int .u64 (m.l : Nat)] 24)) (hT.but B00) (Nat.le_trans hB B00.size) hm)
  have HM := hm
  obtain ⟨h, p, c, w, f, l⟩ := m
  have k1 := HM.c
  have k2 := HM.w
  have k3 := HM.f
  have k4 := HM.l
  simp only at k1 k2 k3 k4
  have B0 := Shut.mk ((But.refl [] W).alloc (.cells #[.string (mkS h), .string (mkS p), .int .u64 (c : Nat), .int .u64 (w : Nat), .int .u64 (f : Nat), .int .u64 (l : Nat)] 24))
  have X0 := Shut.mk (Blk.new W #[.string (mkS h), .string (mkS p), .int .u64 (c : Nat), .int .u64 (w : Nat), .int .u64 (f : Nat), .int .u64 (l : Nat)] 24)
  simp only [msgAgg] at *
  have hcmp0 : ∀ b : Bool, b = decide (l < 18446744073709551615) → ∀ t, binOp .neq t (.int .u64 (l : Nat)) (.int .u64 18446744073709551615) = pure (.bool b) := fun b hb t => by
    have e : ((l : Int) != 18446744073709551615) = b := by
      rw [hb, Bool.eq_iff_iff, bne_iff_ne, decide_eq_true_iff]; omega
    rw [← e]; rfl
  have hcmp1 : ∀ b : Bool, b = decide (l < 18446744073709551615) → ∀ t, binOp .lss t (.int .u64 (l : Nat)) (.int .u64 18446744073709551615) = pure (.bool b) := fun b hb t => by
    have e : decide ((l : Int) < 18446744073709551615) = b := by
      rw [hb, Bool.eq_iff_iff, decide_eq_true_iff, decide_eq_true_iff]; omega
    rw [← e]; exact binOp_lss _ _ _ _
  generalize hmv : mayB ⟨h, p, c, w, f, l⟩ = mv at *
  have HMV := Shut.mk hmv
  clear hmv HM
  by_cases c0 : h.length = 32 ∧ p.length = 32
  case neg =>
    have hv : msgV ⟨h, p, c, w, f, l⟩ = .tuple #[.string (mkS []), .int .i64 2] := if_neg c0
    rw [hv] at E
    have hc0 : (h.length = 32 ∧ p.length = 32) = False := eq_false c0
    clear hv hcmp0 hcmp1 hm
    have HR : Shut (mv = false) := ⟨by rw [← HMV.out]; simp only [mayB, hc0]; simp⟩
    rw [HR.out]
    clear HMV k1 k2 k3 k4 hc0 c0
    go_enter Tryz.func22, Tryz.ntmps22
    go_wp2_with fail
    refine E.out.mono ?_
    rintro e w1 ⟨rfl, hb⟩
    have B1 := Shut.mk (B0.out.trans hb)
    clear hb
    go_wp2_with fail
    go_ret
    exact ⟨rfl, B1.out⟩
  have hv : msgV ⟨h, p, c, w, f, l⟩ = .tuple #[.string (mkS (wholeB (msgKv ⟨h, p, c, w, f, l⟩))), .int .i64 0] := if_pos c0
  rw [hv] at E
  have hc0 : (h.length = 32 ∧ p.length = 32) = True := eq_true c0
  generalize wholeB (msgKv ⟨h, p, c, w, f, l⟩) = mb at *
  clear hv hm c0
  by_cases c1 : 0 < c
  case neg =>
    have c1i : ¬ (0 < (c : Int)) := by omega
    have c1j : ¬ (1 ≤ (c : Int)) := by omega
    have c1k : ¬ (1 ≤ c) := by omega
    have HR : Shut (mv = false) := ⟨by rw [← HMV.out]; have : decide (0 < c) = false := decide_eq_false c1; simp only [mayB, this, Bool.and_false, Bool.false_and]⟩
    rw [HR.out]
    clear HMV k1 k2 k3 k4 hcmp0 hcmp1 hc0
    go_enter Tryz.func22, Tryz.ntmps22
    go_wp2_with fail
    refine E.out.mono ?_
    rintro e w1 ⟨rfl, hb⟩
    have X1 := Shut.mk (X0.out.but hb (by simp))
    have B1 := Shut.mk (B0.out.trans hb)
    have m2 : w1.cell? ⟨W.heap.size, 2, none⟩ = some (.int .u64 (c : Nat)) := X1.out.cell 2 rfl
    have m3 : w1.cell? ⟨W.heap.size, 3, none⟩ = some (.int .u64 (w : Nat)) := X1.out.cell 3 rfl
    have m4 : w1.cell? ⟨W.heap.size, 4, none⟩ = some (.int .u64 (f : Nat)) := X1.out.cell 4 rfl
    have m5 : w1.cell? ⟨W.heap.size, 5, none⟩ = some (.int .u64 (l : Nat)) := X1.out.cell 5 rfl
    clear hb
    go_wp2_with fail
    go_ret
    exact ⟨rfl, B1.out⟩
  have c1i : 0 < (c : Int) := by omega
  have c1j : 1 ≤ (c : Int) := by omega
  by_cases c2 : c ≤ 65536
  case neg =>
    have c2i : ¬ ((c : Int) ≤ 65536) := by omega
    have HR : Shut (mv = false) := ⟨by rw [← HMV.out]; have : decide (c ≤ 65536) = false := decide_eq_false c2; simp only [mayB, this, Bool.and_false, Bool.false_and]⟩
    rw [HR.out]
    clear HMV k1 k2 k3 k4 hcmp0 hcmp1 c2 hc0
    go_enter Tryz.func22, Tryz.ntmps22
    go_wp2_with fail
    refine E.out.mono ?_
    rintro e w1 ⟨rfl, hb⟩
    have X1 := Shut.mk (X0.out.but hb (by simp))
    have B1 := Shut.mk (B0.out.trans hb)
    have m2 : w1.cell? ⟨W.heap.size, 2, none⟩ = some (.int .u64 (c : Nat)) := X1.out.cell 2 rfl
    have m3 : w1.cell? ⟨W.heap.size, 3, none⟩ = some (.int .u64 (w : Nat)) := X1.out.cell 3 rfl
    have m4 : w1.cell? ⟨W.heap.size, 4, none⟩ = some (.int .u64 (f : Nat)) := X1.out.cell 4 rfl
    have m5 : w1.cell? ⟨W.heap.size, 5, none⟩ = some (.int .u64 (l : Nat)) := X1.out.cell 5 rfl
    clear hb
    go_wp2_with fail
    go_ret
    exact ⟨rfl, B1.out⟩
  have c2i : (c : Int) ≤ 65536 := by omega
  by_cases c3 : 0 < w
  case neg =>
    have c3i : ¬ (0 < (w : Int)) := by omega
    have c3j : ¬ (1 ≤ (w : Int)) := by omega
    have c3k : ¬ (1 ≤ w) := by omega
    have HR : Shut (mv = false) := ⟨by rw [← HMV.out]; have : decide (0 < w) = false := decide_eq_false c3; simp only [mayB, this, Bool.and_false, Bool.false_and]⟩
    rw [HR.out]
    clear HMV k1 k2 k3 k4 hcmp0 hcmp1 c3 hc0
    go_enter Tryz.func22, Tryz.ntmps22
    go_wp2_with fail
    refine E.out.mono ?_
    rintro e w1 ⟨rfl, hb⟩
    have X1 := Shut.mk (X0.out.but hb (by simp))
    have B1 := Shut.mk (B0.out.trans hb)
    have m2 : w1.cell? ⟨W.heap.size, 2, none⟩ = some (.int .u64 (c : Nat)) := X1.out.cell 2 rfl
    have m3 : w1.cell? ⟨W.heap.size, 3, none⟩ = some (.int .u64 (w : Nat)) := X1.out.cell 3 rfl
    have m4 : w1.cell? ⟨W.heap.size, 4, none⟩ = some (.int .u64 (f : Nat)) := X1.out.cell 4 rfl
    have m5 : w1.cell? ⟨W.heap.size, 5, none⟩ = some (.int .u64 (l : Nat)) := X1.out.cell 5 rfl
    clear hb
    go_wp2_with fail
    go_ret
    exact ⟨rfl, B1.out⟩
  have c3i : 0 < (w : Int) := by omega
  have c3j : 1 ≤ (w : Int) := by omega
  by_cases c4 : f ≤ l
  case neg =>
    have c4i : ¬ ((f : Int) ≤ (l : Int)) := by omega
    have HR : Shut (mv = false) := ⟨by rw [← HMV.out]; have : decide (f ≤ l) = false := decide_eq_false c4; simp only [mayB, this, Bool.and_false, Bool.false_and]⟩
    rw [HR.out]
    clear HMV k1 k2 k3 k4 hcmp0 hcmp1 c4 hc0
    go_enter Tryz.func22, Tryz.ntmps22
    go_wp2_with fail
    refine E.out.mono ?_
    rintro e w1 ⟨rfl, hb⟩
    have X1 := Shut.mk (X0.out.but hb (by simp))
    have B1 := Shut.mk (B0.out.trans hb)
    have m2 : w1.cell? ⟨W.heap.size, 2, none⟩ = some (.int .u64 (c : Nat)) := X1.out.cell 2 rfl
    have m3 : w1.cell? ⟨W.heap.size, 3, none⟩ = some (.int .u64 (w : Nat)) := X1.out.cell 3 rfl
    have m4 : w1.cell? ⟨W.heap.size, 4, none⟩ = some (.int .u64 (f : Nat)) := X1.out.cell 4 rfl
    have m5 : w1.cell? ⟨W.heap.size, 5, none⟩ = some (.int .u64 (l : Nat)) := X1.out.cell 5 rfl
    clear hb
    go_wp2_with fail
    go_ret
    exact ⟨rfl, B1.out⟩
  have c4i : (f : Int) ≤ (l : Int) := by omega
  by_cases c5 : l - f < 64
  case neg =>
    have c5i : ¬ (((l - f : Nat) : Int) < 64) := by omega
    have hsub : IntKind.u64.wrap ((l : Int) - (f : Int)) = ((l - f : Nat) : Int) := by show ((l : Int) - f) % 18446744073709551616 = _; omega
    have HR : Shut (mv = false) := ⟨by rw [← HMV.out]; have : decide (l - f < 64) = false := decide_eq_false c5; simp only [mayB, this, Bool.and_false, Bool.false_and]⟩
    rw [HR.out]
    clear HMV k1 k2 k3 k4 hcmp0 hcmp1 c5 hc0
    generalize l - f = df at *
    go_enter Tryz.func22, Tryz.ntmps22
    go_wp2_with fail
    refine E.out.mono ?_
    rintro e w1 ⟨rfl, hb⟩
    have X1 := Shut.mk (X0.out.but hb (by simp))
    have B1 := Shut.mk (B0.out.trans hb)
    have m2 : w1.cell? ⟨W.heap.size, 2, none⟩ = some (.int .u64 (c : Nat)) := X1.out.cell 2 rfl
    have m3 : w1.cell? ⟨W.heap.size, 3, none⟩ = some (.int .u64 (w : Nat)) := X1.out.cell 3 rfl
    have m4 : w1.cell? ⟨W.heap.size, 4, none⟩ = some (.int .u64 (f : Nat)) := X1.out.cell 4 rfl
    have m5 : w1.cell? ⟨W.heap.size, 5, none⟩ = some (.int .u64 (l : Nat)) := X1.out.cell 5 rfl
    clear hb
    go_wp2_with fail
    go_ret
    exact ⟨rfl, B1.out⟩
  have c5i : ((l - f : Nat) : Int) < 64 := by omega
  by_cases c6 : l < 18446744073709551615
  case neg =>
    have hsub : IntKind.u64.wrap ((l : Int) - (f : Int)) = ((l - f : Nat) : Int) := by show ((l : Int) - f) % 18446744073709551616 = _; omega
    have HC0 := hcmp0 false (by simp; omega)
    have HC1 := hcmp1 false (by simp; omega)
    have HR : Shut (mv = false) := ⟨by rw [← HMV.out]; have : decide (l < 18446744073709551615) = false := decide_eq_false c6; simp only [mayB, this, Bool.and_false, Bool.false_and]⟩
    rw [HR.out]
    clear HMV k1 k2 k3 k4 hcmp0 hcmp1 c6 hc0
    generalize l - f = df at *
    go_enter Tryz.func22, Tryz.ntmps22
    go_wp2_with fail
    refine E.out.mono ?_
    rintro e w1 ⟨rfl, hb⟩
    have X1 := Shut.mk (X0.out.but hb (by simp))
    have B1 := Shut.mk (B0.out.trans hb)
    have m2 : w1.cell? ⟨W.heap.size, 2, none⟩ = some (.int .u64 (c : Nat)) := X1.out.cell 2 rfl
    have m3 : w1.cell? ⟨W.heap.size, 3, none⟩ = some (.int .u64 (w : Nat)) := X1.out.cell 3 rfl
    have m4 : w1.cell? ⟨W.heap.size, 4, none⟩ = some (.int .u64 (f : Nat)) := X1.out.cell 4 rfl
    have m5 : w1.cell? ⟨W.heap.size, 5, none⟩ = some (.int .u64 (l : Nat)) := X1.out.cell 5 rfl
    clear hb
    go_wp2_with fail
    go_ret
    exact ⟨rfl, B1.out⟩
  have hsub : IntKind.u64.wrap ((l : Int) - (f : Int)) = ((l - f : Nat) : Int) := by show ((l : Int) - f) % 18446744073709551616 = _; omega
  have HC0 := hcmp0 true (by simp; omega)
  have HC1 := hcmp1 true (by simp; omega)
  have HR : Shut (mv = true) := ⟨by rw [← HMV.out]; simp only [mayB, hc0, c1, c2, c3, c4, c5, c6, decide_true, Bool.and_true]⟩
  rw [HR.out]
  clear HMV k1 k2 k3 k4 hcmp0 hcmp1 hc0 c1 c2 c3 c4 c5 c6
  generalize l - f = df at *
  go_enter Tryz.func22, Tryz.ntmps22
  go_wp2_with fail
  refine E.out.mono ?_
  rintro e w1 ⟨rfl, hb⟩
  have X1 := Shut.mk (X0.out.but hb (by simp))
  have B1 := Shut.mk (B0.out.trans hb)
  have m2 : w1.cell? ⟨W.heap.size, 2, none⟩ = some (.int .u64 (c : Nat)) := X1.out.cell 2 rfl
  have m3 : w1.cell? ⟨W.heap.size, 3, none⟩ = some (.int .u64 (w : Nat)) := X1.out.cell 3 rfl
  have m4 : w1.cell? ⟨W.heap.size, 4, none⟩ = some (.int .u64 (f : Nat)) := X1.out.cell 4 rfl
  have m5 : w1.cell? ⟨W.heap.size, 5, none⟩ = some (.int .u64 (l : Nat)) := X1.out.cell 5 rfl
  clear hb
  go_wp2_with fail
  go_ret
  exact ⟨rfl, B1.out⟩
end Go.Proofs.YtdaojlipkffigaaGreatDoor
namespace Go.Proofs.YtdaojlipkffigaaGreatDoor
set_option linter.unusedVariables false
set_option linter.unusedSimpArgs false
set_option maxRecDepth 100000
open Go Go.RowKit
def winZ (n : Int) : Array Value := ((List.replicate 32 [Value.int .u64 0, Value.int .u64 0, Value.string (mkS [])]).flatten ++ [Value.int .i64 0, Value.int .i64 0, Value.int .i64 n]).toArray
theorem cwithin_any (n m : Int) (W : World) :
    Calls Tryz.prog 21 #[.int .i64 n, .int .i64 m] W fun e w' => e = .returned (.bool (decide (0 < n) && decide (n ≤ m))) ∧ w' = W := by
  by_cases h1 : 0 < n
  · have h1' : n > 0 := h1
    by_cases h2 : n ≤ m
    · rw [decide_eq_true h1, decide_eq_true h2]
      go_enter Tryz.func21, Tryz.ntmps21
      go_wp2_with fail
      go_ret
      exact ⟨rfl, rfl⟩
    · rw [decide_eq_true h1, decide_eq_false h2]
      go_enter Tryz.func21, Tryz.ntmps21
      go_wp2_with fail
      go_ret
      exact ⟨rfl, rfl⟩
  · rw [decide_eq_false h1]
    have h1' : ¬ n > 0 := h1
    go_enter Tryz.func21, Tryz.ntmps21
    go_wp2_with fail
    go_ret
    exact ⟨rfl, rfl⟩
set_option maxHeartbeats 1000000 in
theorem winnew_any (n : Int) (h1 : 1 ≤ n) (h2 : n ≤ 32) (W : World) :
    Calls Tryz.prog 23 #[.int .i64 n] W fun e w' => e = .returned (.pointer (some ⟨W.heap.size, 0, none⟩)) ∧ w' = W.alloc (.cells (winZ n) 96) := by
  have h3 : ¬ (n < 1) := by omega
  have h4 : ¬ (n > 32) := by omega
  have h5 : ¬ (32 < n) := by omega
  clear h1 h2
  go_enter Tryz.func23, Tryz.ntmps23
  go_wp2_with fail
  go_ret
  exact ⟨rfl, rfl⟩
end Go.Proofs.YtdaojlipkffigaaGreatDoor
namespace Go.Proofs.YtdaojlipkffigaaGreatDoor
set_option linter.unusedVariables false
set_option linter.unusedSimpArgs false
set_option maxRecDepth 100000
open Go Go.RowKit
structure NewOk (m : LM) (s : Nat) (a b : Int) : Prop where
  may : mayB m = true
  s1 : 1 ≤ s
  s2 : s ≤ 256
  a1 : 1 ≤ a
  a2 : a ≤ 640
  b1 : 1 ≤ b
  b2 : b ≤ 32
def mCells (m : LM) : Array Value := #[.string (mkS m.h), .string (mkS m.p), .int .u64 (m.c : Nat), .int .u64 (m.w : Nat), .int .u64 (m.f : Nat), .int .u64 (m.l : Nat)]
def nCells (a b : Int) : Array Value := #[.int .i64 a, .int .i64 b]
end Go.Proofs.YtdaojlipkffigaaGreatDoor
namespace Go.Proofs.YtdaojlipkffigaaGreatDoor
set_option linter.unusedVariables false
set_option linter.unusedSimpArgs false
set_option maxRecDepth 100000
open Go Go.RowKit
def PNew (m : LM) (s : Nat) (a b : Int) (W : World) (e : Ending) (w' : World) : Prop :=
  ∃ g gw : Nat, e = .returned (.tuple #[.pointer (some ⟨g, 0, none⟩), .int .i64 0]) ∧ But [] W w' ∧ W.heap.size ≤ g ∧ W.heap.size ≤ gw ∧
    Blk w' g #[.string (mkS m.h), .string (mkS m.p), .int .u64 (m.c : Nat), .int .u64 (m.w : Nat), .int .u64 (m.f : Nat), .int .u64 (m.l : Nat), .pointer (some ⟨gw, 0, none⟩), .int .u64 (s : Nat), .int .i64 a] 60 ∧ Blk w' gw (winZ b) 96
set_option maxHeartbeats 2000000 in
theorem pnew_good (m : LM) (s : Nat) (a b : Int) (B : Nat) (W : World) (hT : PackT B W) (hB : B ≤ W.heap.size) (hm : m.ok) (hg : NewOk m s a b) :
    Calls Tryz.prog 5 #[msgAgg m, .int .u64 (s : Nat), .agg #[.int .i64 a, .int .i64 b]] W (PNew m s a b W) := by
  have B0 := Shut.mk (((But.refl [] W).alloc (.cells (mCells m) 24)).alloc (.cells (nCells a b) 25))
  have X0 := Shut.mk ((Blk.new W (mCells m) 24).alloc (.cells (nCells a b) 25))
  have Y0 := Shut.mk (Blk.new (W.alloc (.cells (mCells m) 24)) (nCells a b) 25)
  have E := Shut.mk (may_any m B ((W.alloc (.cells (mCells m) 24)).alloc (.cells (nCells a b) 25)) (hT.but B0.out) (Nat.le_trans hB B0.out.size) hm)
  rw [hg.may] at E
  clear hT hB
  obtain ⟨-, k1, k2, k3, k4, k5, k6⟩ := hg
  have s1 : ¬ ((s : Int) < 1) := by omega
  have s2 : ¬ ((s : Int) > 256) := by omega
  have s3 : ¬ (256 < (s : Int)) := by omega
  have a1 : ¬ (a < 1) := by omega
  have a2 : ¬ (a > 640) := by omega
  have a3 : ¬ (640 < a) := by omega
  have b1 : ¬ (b < 1) := by omega
  have b2 : ¬ (b > 32) := by omega
  have b3 : ¬ (32 < b) := by omega
  have s4 : ∀ t, binOp .eql t (.int .u64 (s : Nat)) (.int .u64 0) = pure (.bool false) := fun t => by
    have e : ((s : Int) == 0) = false := by rw [beq_eq_false_iff_ne]; omega
    rw [← e]; rfl
  have C1 : Shut (∀ W1, Calls Tryz.prog 21 #[.int .i64 a, .int .i64 640] W1 fun e w' => e = .returned (.bool true) ∧ w' = W1) := ⟨fun W1 => by have := cwithin_any a 640 W1; rwa [decide_eq_true (by omega : 0 < a), decide_eq_true (by omega : a ≤ 640)] at this⟩
  have C2 : Shut (∀ W1, Calls Tryz.prog 21 #[.int .i64 b, .int .i64 32] W1 fun e w' => e = .returned (.bool true) ∧ w' = W1) := ⟨fun W1 => by have := cwithin_any b 32 W1; rwa [decide_eq_true (by omega : 0 < b), decide_eq_true (by omega : b ≤ 32)] at this⟩
  have NW := Shut.mk (fun W1 => winnew_any b k5 k6 W1)
  obtain ⟨h, p, c, w, f, l⟩ := m
  simp only [mCells, nCells, msgAgg] at *
  clear hm k1 k2 k3 k4 k5 k6
  generalize hR : PNew ⟨h, p, c, w, f, l⟩ s a b W = R
  have HR := Shut.mk hR
  clear hR
  go_enter Tryz.func5, Tryz.ntmps5
  go_wp2_with fail
  refine E.out.mono ?_
  rintro e w1 ⟨rfl, hb⟩
  have X1 := Shut.mk (X0.out.but hb (by simp))
  have Y1 := Shut.mk (Y0.out.but hb (by simp))
  have B1 := Shut.mk (B0.out.trans hb)
  have n0 : w1.cell? ⟨W.heap.size + 1, 0, none⟩ = some (.int .i64 a) := by have := Y1.out.cell 0 rfl; simpa using this
  have n1 : w1.cell? ⟨W.heap.size + 1, 1, none⟩ = some (.int .i64 b) := by have := Y1.out.cell 1 rfl; simpa using this
  clear hb E X0 Y0 B0
  go_wp2_with fail
  refine (C1.out _).mono ?_
  rintro e w2 ⟨rfl, hw2⟩
  rw [hw2]
  clear hw2 w2
  go_wp2_with fail
  refine (C2.out _).mono ?_
  rintro e w3 ⟨rfl, hw3⟩
  rw [hw3]
  clear hw3 w3
  go_wp2_with fail
  all_goals try (exfalso; omega)
  have CE : Shut (∀ W1, Later w1.drew W1 → W1.cell? ⟨W.heap.size, 0, none⟩ = some (.string (mkS h)) ∧ W1.cell? ⟨W.heap.size, 1, none⟩ = some (.string (mkS p)) ∧ W1.cell? ⟨W.heap.size, 2, none⟩ = some (.int .u64 (c : Nat)) ∧ W1.cell? ⟨W.heap.size, 3, none⟩ = some (.int .u64 (w : Nat)) ∧ W1.cell? ⟨W.heap.size, 4, none⟩ = some (.int .u64 (f : Nat)) ∧ W1.cell? ⟨W.heap.size, 5, none⟩ = some (.int .u64 (l : Nat)) ∧ W1.cell? ⟨W.heap.size + 1, 0, none⟩ = some (.int .i64 a) ∧ W1.cell? ⟨W.heap.size + 1, 1, none⟩ = some (.int .i64 b)) := ⟨fun W1 hl => ⟨(X1.out.drew.later hl).cell 0 rfl, (X1.out.drew.later hl).cell 1 rfl, (X1.out.drew.later hl).cell 2 rfl, (X1.out.drew.later hl).cell 3 rfl, (X1.out.drew.later hl).cell 4 rfl, (X1.out.drew.later hl).cell 5 rfl, by have := (Y1.out.drew.later hl).cell 0 rfl; simpa using this, by have := (Y1.out.drew.later hl).cell 1 rfl; simpa using this⟩⟩
  have BD : Shut (But [] W w1.drew) := ⟨⟨B1.out.os, B1.out.tape, B1.out.output, B1.out.size, B1.out.block, B1.out.shape⟩⟩
  clear X1 Y1 B1 n0 n1
  refine wp_region_later (by kernel_rfl) [] ?_
  refine wpAnyB_take (i := 0) (v := ?_) rfl (by kernel_rfl) (by kernel_rfl) (by kernel_rfl) (fun _ _ _ h => h) (by kernel_rfl) (fix_value (by rfl) ?_) ?_
  rotate_left
  · (intro W1 hl; obtain ⟨q0, q1, q2, q3, q4, q5, q6, q7⟩ := CE.out W1 hl; go_simp <;> with_reducible rfl)
  try simp only [List.getElem_toArray, List.getElem_cons_zero, List.getElem_cons_succ, Act.put, List.setIfInBounds_toArray, List.set_cons_zero, List.set_cons_succ]
  refine wpAnyB_take (i := 1) (v := ?_) rfl (by kernel_rfl) (by kernel_rfl) (by kernel_rfl) (fun _ _ _ h => h) (by kernel_rfl) (fix_value (by rfl) ?_) ?_
  rotate_left
  · (intro W1 hl; go_simp <;> with_reducible rfl)
  try simp only [List.getElem_toArray, List.getElem_cons_zero, List.getElem_cons_succ, Act.put, List.setIfInBounds_toArray, List.set_cons_zero, List.set_cons_succ]
  refine wpAnyB_take (i := 2) (v := ?_) rfl (by kernel_rfl) (by kernel_rfl) (by kernel_rfl) (fun _ _ _ h => h) (by kernel_rfl) (fix_value (by rfl) ?_) ?_
  rotate_left
  · (intro W1 hl; obtain ⟨q0, q1, q2, q3, q4, q5, q6, q7⟩ := CE.out W1 hl; go_simp <;> with_reducible rfl)
  try simp only [List.getElem_toArray, List.getElem_cons_zero, List.getElem_cons_succ, Act.put, List.setIfInBounds_toArray, List.set_cons_zero, List.set_cons_succ]
  refine wpAnyB_take (i := 4) (v := ?_) rfl (by kernel_rfl) (by kernel_rfl) (by kernel_rfl) (fun _ _ _ h => h) (by kernel_rfl) (fix_value (by rfl) ?_) ?_
  rotate_left
  · (intro W1 hl; go_simp <;> with_reducible rfl)
  try simp only [List.getElem_toArray, List.getElem_cons_zero, List.getElem_cons_succ, Act.put, List.setIfInBounds_toArray, List.set_cons_zero, List.set_cons_succ]
  refine wpAnyB_take (i := 5) (v := ?_) rfl (by kernel_rfl) (by kernel_rfl) (by kernel_rfl) (fun _ _ _ h => h) (by kernel_rfl) (fix_value (by rfl) ?_) ?_
  rotate_left
  · (intro W1 hl; go_simp <;> with_reducible rfl)
  try simp only [List.getElem_toArray, List.getElem_cons_zero, List.getElem_cons_succ, Act.put, List.setIfInBounds_toArray, List.set_cons_zero, List.set_cons_succ]
  refine wpAnyB_take (i := 6) (v := ?_) rfl (by kernel_rfl) (by kernel_rfl) (by kernel_rfl) (fun _ _ _ h => h) (by kernel_rfl) (fix_value (by rfl) ?_) ?_
  rotate_left
  · (intro W1 hl; obtain ⟨q0, q1, q2, q3, q4, q5, q6, q7⟩ := CE.out W1 hl; go_simp <;> with_reducible rfl)
  try simp only [List.getElem_toArray, List.getElem_cons_zero, List.getElem_cons_succ, Act.put, List.setIfInBounds_toArray, List.set_cons_zero, List.set_cons_succ]
  refine wpAnyB_call (i := 3) (R := fun W1 v W2 => v = .pointer (some ⟨W1.heap.size, 0, none⟩) ∧ W2 = W1.alloc (.cells (winZ b) 96)) rfl (by kernel_rfl) (by rfl) (fun W1 hl => (NW.out W1).mono (by rintro e w' ⟨rfl, rfl⟩; exact ⟨_, rfl, Later.alloc' _ _, rfl, rfl⟩)) ?_ ?_
  · (intro W1 hl; go_simp <;> with_reducible rfl)
  rintro W2 v W3 hl1 hl2 ⟨rfl, hW3⟩
  try simp only [List.getElem_toArray, List.getElem_cons_zero, List.getElem_cons_succ, Act.put, List.setIfInBounds_toArray, List.set_cons_zero, List.set_cons_succ]
  have XW : Shut (Blk W3 W2.heap.size (winZ b) 96) := ⟨by rw [hW3]; exact Blk.new W2 _ _⟩
  have BW := Shut.mk ((BD.out.trans (But.ofBelow hl1)).trans (But.ofBelow hl2))
  have GW : Shut (W.heap.size ≤ W2.heap.size) := ⟨(BD.out.trans (But.ofBelow hl1)).size⟩
  have CE := Shut.mk (fun W1 (hl : Later W3 W1) => CE.out W1 ((hl1.trans hl2).trans hl))
  clear hW3 hl1 hl2 BD NW
  generalize W2.heap.size = gw at *
  refine wpAnyB_take (i := 7) (v := ?_) rfl (by kernel_rfl) (by kernel_rfl) (by kernel_rfl) (fun _ _ _ h => h) (by kernel_rfl) (fix_value (by rfl) ?_) ?_
  rotate_left
  · (intro W1 hl; go_simp <;> with_reducible rfl)
  try simp only [List.getElem_toArray, List.getElem_cons_zero, List.getElem_cons_succ, Act.put, List.setIfInBounds_toArray, List.set_cons_zero, List.set_cons_succ]
  refine wpAnyB_alloc (i := 8) (ob := .cells #[.string (mkS h), .string (mkS p), .int .u64 (c : Nat), .int .u64 (w : Nat), .int .u64 (f : Nat), .int .u64 (l : Nat), .pointer (some ⟨gw, 0, none⟩), .int .u64 (s : Nat), .int .i64 a] 60) rfl (by kernel_rfl) (by rfl) ?_ ?_
  · (intro W1 hl; go_simp <;> with_reducible rfl)
  intro W4 hl3
  try simp only [List.getElem_toArray, List.getElem_cons_zero, List.getElem_cons_succ, Act.put, List.setIfInBounds_toArray, List.set_cons_zero, List.set_cons_succ]
  have XC := Shut.mk (Blk.new W4 #[.string (mkS h), .string (mkS p), .int .u64 (c : Nat), .int .u64 (w : Nat), .int .u64 (f : Nat), .int .u64 (l : Nat), .pointer (some ⟨gw, 0, none⟩), .int .u64 (s : Nat), .int .i64 a] 60)
  have XW := Shut.mk ((XW.out.later hl3).alloc (.cells #[.string (mkS h), .string (mkS p), .int .u64 (c : Nat), .int .u64 (w : Nat), .int .u64 (f : Nat), .int .u64 (l : Nat), .pointer (some ⟨gw, 0, none⟩), .int .u64 (s : Nat), .int .i64 a] 60))
  have BC := Shut.mk ((BW.out.trans (But.ofBelow hl3)).alloc (.cells #[.string (mkS h), .string (mkS p), .int .u64 (c : Nat), .int .u64 (w : Nat), .int .u64 (f : Nat), .int .u64 (l : Nat), .pointer (some ⟨gw, 0, none⟩), .int .u64 (s : Nat), .int .i64 a] 60))
  have GC : Shut (W.heap.size ≤ W4.heap.size) := ⟨(BW.out.trans (But.ofBelow hl3)).size⟩
  clear hl3 CE BW
  refine wpAnyB_take (i := 9) (v := ?_) rfl (by kernel_rfl) (by kernel_rfl) (by kernel_rfl) (fun _ _ _ h => h) (by kernel_rfl) (fix_value (by rfl) ?_) ?_
  rotate_left
  · (intro W1 hl; go_simp <;> with_reducible rfl)
  try simp only [List.getElem_toArray, List.getElem_cons_zero, List.getElem_cons_succ, Act.put, List.setIfInBounds_toArray, List.set_cons_zero, List.set_cons_succ]
  refine wpAnyB_take (i := 10) (v := ?_) rfl (by kernel_rfl) (by kernel_rfl) (by kernel_rfl) (fun _ _ _ h => h) (by kernel_rfl) (fix_value (by rfl) ?_) ?_
  rotate_left
  · (intro W1 hl; go_simp <;> with_reducible rfl)
  try simp only [List.getElem_toArray, List.getElem_cons_zero, List.getElem_cons_succ, Act.put, List.setIfInBounds_toArray, List.set_cons_zero, List.set_cons_succ]
  refine wpAnyB_done (by kernel_rfl) (fun w2 hl4 => ?_) _
  try simp only [List.getElem_toArray, List.getElem_cons_zero, List.getElem_cons_succ, Act.put, List.setIfInBounds_toArray, List.set_cons_zero, List.set_cons_succ]
  have XC := Shut.mk (XC.out.later hl4)
  have XW := Shut.mk (XW.out.later hl4)
  have BC := Shut.mk (BC.out.trans (But.ofBelow hl4))
  clear hl4
  generalize W4.heap.size = g at *
  go_wp2_with fail
  rw [← HR.out]
  exact ⟨g, gw, rfl, BC.out, GC.out, GW.out, XC.out, XW.out⟩
end Go.Proofs.YtdaojlipkffigaaGreatDoor
namespace Go.Proofs.YtdaojlipkffigaaGreatDoor
set_option linter.unusedVariables false
set_option linter.unusedSimpArgs false
set_option maxRecDepth 100000
open Go Go.RowKit
def pC (m : LM) (gw s : Nat) (a : Int) : Array Value := #[.string (mkS m.h), .string (mkS m.p), .int .u64 (m.c : Nat), .int .u64 (m.w : Nat), .int .u64 (m.f : Nat), .int .u64 (m.l : Nat), .pointer (some ⟨gw, 0, none⟩), .int .u64 (s : Nat), .int .i64 a]
theorem pnext_nil (W : World) : Calls Tryz.prog 7 #[.pointer none] W fun e w' => e = .returned (.int .u64 0) ∧ w' = W := by
  go_enter Tryz.func7, Tryz.ntmps7
  go_wp2_with fail
  go_ret
  exact ⟨rfl, rfl⟩
theorem pnext_any (m : LM) (g gw s : Nat) (a : Int) (W : World) (hx : Blk W g (pC m gw s a) 60) (hl : m.l < 18446744073709551615) :
    Calls Tryz.prog 7 #[.pointer (some ⟨g, 0, none⟩)] W fun e w' => e = .returned (.int .u64 ((m.l + 1 : Nat) : Int)) ∧ w' = W := by
  have c5 : W.cell? ⟨g, 5, none⟩ = some (.int .u64 (m.l : Nat)) := hx.cell 5 rfl
  generalize m.l = l at *
  obtain ⟨j, hj⟩ : ∃ j, j = l + 1 := ⟨_, rfl⟩
  have hw : IntKind.u64.wrap ((l : Int) + 1) = (j : Int) := by show ((l : Int) + 1) % 18446744073709551616 = _; omega
  rw [← hj]
  clear hx hl hj
  go_enter Tryz.func7, Tryz.ntmps7
  go_wp2_with fail
  go_ret
  exact ⟨rfl, rfl⟩
theorem len_empty (gw : Nat) (b : Int) (W : World) (hx : Blk W gw (winZ b) 96) :
    Calls Tryz.prog 102 #[.pointer (some ⟨gw, 0, none⟩)] W fun e w' => e = .returned (.int .i64 0) ∧ w' = W := by
  have c97 : W.cell? ⟨gw, 97, none⟩ = some (.int .i64 0) := hx.cell 97 rfl
  clear hx
  go_enter Tryz.func102, Tryz.ntmps102
  go_wp2_with fail
  go_ret
  exact ⟨rfl, rfl⟩
end Go.Proofs.YtdaojlipkffigaaGreatDoor
namespace Go.Proofs.YtdaojlipkffigaaGreatDoor
set_option linter.unusedVariables false
set_option linter.unusedSimpArgs false
set_option maxRecDepth 100000
open Go Go.RowKit
theorem trusted_nil (W : World) : Calls Tryz.prog 9 #[.pointer none] W fun e w' => e = .returned (msgAgg ⟨[], [], 0, 0, 0, 0⟩) ∧ But [] W w' := by
  simp only [msgAgg]
  have B0 := Shut.mk ((But.refl [] W).alloc (.cells #[.string { data := #[] }, .string { data := #[] }, .int .u64 0, .int .u64 0, .int .u64 0, .int .u64 0] 24))
  go_enter Tryz.func9, Tryz.ntmps9
  go_wp2_with fail
  exact bodyPost_ret (v := .agg #[.string { data := #[] }, .string { data := #[] }, .int .u64 0, .int .u64 0, .int .u64 0, .int .u64 0]) (by simp [results, Tryz.results9, go_sem]) rfl ⟨rfl, B0.out⟩
theorem trusted_any (m : LM) (g gw s : Nat) (a : Int) (W : World) (hx : Blk W g (pC m gw s a) 60) :
    Calls Tryz.prog 9 #[.pointer (some ⟨g, 0, none⟩)] W fun e w' => e = .returned (msgAgg m) ∧ But [] W w' := by
  have B0 := Shut.mk ((But.refl [] W).alloc (.cells #[.string { data := #[] }, .string { data := #[] }, .int .u64 0, .int .u64 0, .int .u64 0, .int .u64 0] 24))
  have hy := hx.alloc (.cells #[.string { data := #[] }, .string { data := #[] }, .int .u64 0, .int .u64 0, .int .u64 0, .int .u64 0] 24)
  obtain ⟨h, p, c, w, f, l⟩ := m
  simp only [msgAgg]
  have N0 := Shut.mk (Blk.new W #[.string { data := #[] }, .string { data := #[] }, .int .u64 0, .int .u64 0, .int .u64 0, .int .u64 0] 24)
  have d0 : (W.alloc (.cells #[.string { data := #[] }, .string { data := #[] }, .int .u64 0, .int .u64 0, .int .u64 0, .int .u64 0] 24)).cell? ⟨g, 0, none⟩ = some (.string (mkS h)) := hy.cell 0 rfl
  have d1 : (W.alloc (.cells #[.string { data := #[] }, .string { data := #[] }, .int .u64 0, .int .u64 0, .int .u64 0, .int .u64 0] 24)).cell? ⟨g, 1, none⟩ = some (.string (mkS p)) := hy.cell 1 rfl
  have d2 : (W.alloc (.cells #[.string { data := #[] }, .string { data := #[] }, .int .u64 0, .int .u64 0, .int .u64 0, .int .u64 0] 24)).cell? ⟨g, 2, none⟩ = some (.int .u64 (c : Nat)) := hy.cell 2 rfl
  have d3 : (W.alloc (.cells #[.string { data := #[] }, .string { data := #[] }, .int .u64 0, .int .u64 0, .int .u64 0, .int .u64 0] 24)).cell? ⟨g, 3, none⟩ = some (.int .u64 (w : Nat)) := hy.cell 3 rfl
  have d4 : (W.alloc (.cells #[.string { data := #[] }, .string { data := #[] }, .int .u64 0, .int .u64 0, .int .u64 0, .int .u64 0] 24)).cell? ⟨g, 4, none⟩ = some (.int .u64 (f : Nat)) := hy.cell 4 rfl
  have d5 : (W.alloc (.cells #[.string { data := #[] }, .string { data := #[] }, .int .u64 0, .int .u64 0, .int .u64 0, .int .u64 0] 24)).cell? ⟨g, 5, none⟩ = some (.int .u64 (l : Nat)) := hy.cell 5 rfl
  have HX := Shut.mk hx
  clear hx hy
  go_enter Tryz.func9, Tryz.ntmps9
  go_wp2_with (refine wpList_store_row rfl 24 (.tmp 2) (.tmp 9) rfl W.heap.size _ rfl rfl 24 _ N0.out (by kernel_rfl) rfl (by kernel_rfl) ?_)
  have N1 := Shut.mk (N0.out.setRow #[.string (mkS h), .string (mkS p), .int .u64 (c : Nat), .int .u64 (w : Nat), .int .u64 (f : Nat), .int .u64 (l : Nat)])
  have B1 := Shut.mk (B0.out.setRow (g := W.heap.size) #[.string (mkS h), .string (mkS p), .int .u64 (c : Nat), .int .u64 (w : Nat), .int .u64 (f : Nat), .int .u64 (l : Nat)] (Nat.le_refl _))
  have e0 := N1.out.cell 0 rfl
  have e1 := N1.out.cell 1 rfl
  have e2 := N1.out.cell 2 rfl
  have e3 := N1.out.cell 3 rfl
  have e4 := N1.out.cell 4 rfl
  have e5 := N1.out.cell 5 rfl
  exact bodyPost_ret (v := .agg #[.string (mkS h), .string (mkS p), .int .u64 (c : Nat), .int .u64 (w : Nat), .int .u64 (f : Nat), .int .u64 (l : Nat)]) (by simp [results, Tryz.results9, go_sem, e0, e1, e2, e3, e4, e5]) rfl ⟨rfl, B1.out⟩
end Go.Proofs.YtdaojlipkffigaaGreatDoor
namespace Go.Proofs.YtdaojlipkffigaaGreatDoor
set_option linter.unusedVariables false
set_option linter.unusedSimpArgs false
set_option maxRecDepth 100000
open Go Go.RowKit
end Go.Proofs.YtdaojlipkffigaaGreatDoor
