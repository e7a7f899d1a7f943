/- The law WideKnown, walked. -/
import Derived.Test.YtdgklodhgbbdjaaLt
import Derived.Test.YtdgklodhgbbdjaaWT
import Derived.OpenShut
namespace Go.Proofs.Ytdgklodhgbbdjaa
set_option linter.unusedVariables false
set_option linter.unusedSimpArgs false
open Go Go.RowKit Go.WideShapes

theorem k_mul (W : World) : Calls Try.prog 25 #[.agg #[.int .u64 18446744073709551615, .int .u64 18446744073709551615, .int .u64 18446744073709551615, .int .u64 18446744073709551615], .agg #[.int .u64 18446744073709551615, .int .u64 18446744073709551615, .int .u64 18446744073709551615, .int .u64 18446744073709551615]] W fun e w' => e = .returned (.agg #[.int .u64 1, .int .u64 0, .int .u64 0, .int .u64 0, .int .u64 18446744073709551614, .int .u64 18446744073709551615, .int .u64 18446744073709551615, .int .u64 18446744073709551615]) ∧ Later W w' := by
  have hu : ∀ x ∈ [18446744073709551615, 18446744073709551615, 18446744073709551615, 18446744073709551615], x < 18446744073709551616 := by decide
  refine (mul_any 18446744073709551615 18446744073709551615 18446744073709551615 18446744073709551615 18446744073709551615 18446744073709551615 18446744073709551615 18446744073709551615 W hu hu).mono ?_
  rintro e w' ⟨p0, p1, p2, p3, p4, p5, p6, p7, rfl, hpu, hpv, hb⟩
  have hE : [p0, p1, p2, p3, p4, p5, p6, p7] = [1, 0, 0, 0, 18446744073709551614, 18446744073709551615, 18446744073709551615, 18446744073709551615] := by
    refine val_inj _ _ rfl hpu (by decide) ?_
    rw [← vn_val hpu (show ([p0, p1, p2, p3, p4, p5, p6, p7] : List Nat).length = 8 from rfl), hpv, vn_val hu (show ([18446744073709551615, 18446744073709551615, 18446744073709551615, 18446744073709551615] : List Nat).length = 4 from rfl)]
    decide
  simp only [List.cons.injEq, and_true] at hE
  obtain ⟨rfl, rfl, rfl, rfl, rfl, rfl, rfl, rfl⟩ := hE
  exact ⟨rfl, hb⟩

theorem k_add (W : World) : Calls Try.prog 13 #[.agg #[.int .u64 18446744073709551615, .int .u64 18446744073709551615, .int .u64 18446744073709551615, .int .u64 18446744073709551615], .agg #[.int .u64 1, .int .u64 0, .int .u64 0, .int .u64 0]] W fun e w' => e = .returned (.tuple #[.agg #[.int .u64 0, .int .u64 0, .int .u64 0, .int .u64 0], .bool true]) ∧ Later W w' := by
  exact add256_any 18446744073709551615 18446744073709551615 18446744073709551615 18446744073709551615 1 0 0 0 [0, 0, 0, 0] true (by decide) (by decide) W (by decide) (by decide)

theorem k_low (W : World) : Calls Try.prog 18 #[.agg #[.int .u64 1, .int .u64 0, .int .u64 0, .int .u64 0, .int .u64 18446744073709551614, .int .u64 18446744073709551615, .int .u64 18446744073709551615, .int .u64 18446744073709551615]] W fun e w' => e = .returned (.tuple #[.agg #[.int .u64 1, .int .u64 0, .int .u64 0, .int .u64 0], .bool true]) ∧ Later W w' := by
  exact low_any 1 0 0 0 18446744073709551614 18446744073709551615 18446744073709551615 18446744073709551615 W

theorem k_dm (W : World) : Calls Try.prog 28 #[.agg #[.int .u64 18446744073709551615, .int .u64 18446744073709551615, .int .u64 18446744073709551615, .int .u64 18446744073709551615], .agg #[.int .u64 0, .int .u64 0, .int .u64 0, .int .u64 0]] W fun e w' => e = .returned (.tuple #[.agg #[.int .u64 0, .int .u64 0, .int .u64 0, .int .u64 0], .agg #[.int .u64 0, .int .u64 0, .int .u64 0, .int .u64 0], .bool true]) ∧ Later W w' := by
  exact divmod_zero 18446744073709551615 18446744073709551615 18446744073709551615 18446744073709551615 W

theorem k_d8 (W : World) : Calls Try.prog 29 #[.agg #[.int .u64 5, .int .u64 7], .int .u64 0] W fun e w' => e = .returned (.tuple #[.agg #[.int .u64 0, .int .u64 0], .int .u64 0, .bool true]) ∧ Later W w' := by
  exact div128_zero 5 7 W

theorem k_shr1 (W : World) : Calls Try.prog 9 #[.agg #[.int .u64 18446744073709551615, .int .u64 18446744073709551615, .int .u64 18446744073709551615, .int .u64 18446744073709551615], .int .u64 255] W fun e w' => e = .returned (.tuple #[.agg #[.int .u64 1, .int .u64 0, .int .u64 0, .int .u64 0], .bool true]) ∧ Later W w' := by
  have := shr_any 18446744073709551615 18446744073709551615 18446744073709551615 18446744073709551615 255 3 63 [18446744073709551615, 0, 0, 0] true (by decide) (by decide) (by decide) (by decide) (by decide) W (by decide)
  rw [show fillTo (shrAt [18446744073709551615, 0, 0, 0] 63) 4 = [1, 0, 0, 0] by decide] at this
  exact this

theorem k_shl (W : World) : Calls Try.prog 8 #[.agg #[.int .u64 18446744073709551615, .int .u64 18446744073709551615, .int .u64 18446744073709551615, .int .u64 18446744073709551615], .int .u64 256] W fun e w' => e = .returned (.tuple #[.agg #[.int .u64 0, .int .u64 0, .int .u64 0, .int .u64 0], .bool true]) ∧ Later W w' := by
  have := shl_use 18446744073709551615 18446744073709551615 18446744073709551615 18446744073709551615 256 (by decide) W (by decide)
  rw [show shlOf (movedTo [18446744073709551615, 18446744073709551615, 18446744073709551615, 18446744073709551615] ((256 / 64 : Nat) : Int) 4) (256 % 64) = [0, 0, 0, 0] by decide, show shlOv [18446744073709551615, 18446744073709551615, 18446744073709551615, 18446744073709551615] 256 = true by decide] at this
  exact this

theorem k_shr2 (W : World) : Calls Try.prog 9 #[.agg #[.int .u64 0, .int .u64 0, .int .u64 0, .int .u64 2], .int .u64 193] W fun e w' => e = .returned (.tuple #[.agg #[.int .u64 1, .int .u64 0, .int .u64 0, .int .u64 0], .bool false]) ∧ Later W w' := by
  have := shr_any 0 0 0 2 193 3 1 [2, 0, 0, 0] false (by decide) (by decide) (by decide) (by decide) (by decide) W (by decide)
  rw [show fillTo (shrAt [2, 0, 0, 0] 1) 4 = [1, 0, 0, 0] by decide] at this
  exact this

theorem k_add5 (W : World) : Calls Try.prog 17 #[.agg #[.int .u64 1, .int .u64 0, .int .u64 0, .int .u64 0, .int .u64 18446744073709551614, .int .u64 18446744073709551615, .int .u64 18446744073709551615, .int .u64 18446744073709551615], .agg #[.int .u64 1, .int .u64 0, .int .u64 0, .int .u64 0, .int .u64 18446744073709551614, .int .u64 18446744073709551615, .int .u64 18446744073709551615, .int .u64 18446744073709551615]] W fun e w' => e = .returned (.tuple #[.agg #[.int .u64 2, .int .u64 0, .int .u64 0, .int .u64 0, .int .u64 18446744073709551612, .int .u64 18446744073709551615, .int .u64 18446744073709551615, .int .u64 18446744073709551615], .bool true]) ∧ Later W w' := by
  exact add512_any 1 0 0 0 18446744073709551614 18446744073709551615 18446744073709551615 18446744073709551615 1 0 0 0 18446744073709551614 18446744073709551615 18446744073709551615 18446744073709551615 [2, 0, 0, 0, 18446744073709551612, 18446744073709551615, 18446744073709551615, 18446744073709551615] true (by decide) (by decide) W (by decide) (by decide)

theorem k_bl1 (W : World) : Calls Try.prog 22 #[.agg #[.int .u64 18446744073709551615, .int .u64 18446744073709551615, .int .u64 18446744073709551615, .int .u64 18446744073709551615]] W fun e w' => e = .returned (.int .i64 256) ∧ Later W w' := by
  have := bitlen_any 18446744073709551615 18446744073709551615 18446744073709551615 18446744073709551615 W (by decide)
  rw [show sizeTo [18446744073709551615, 18446744073709551615, 18446744073709551615, 18446744073709551615] 4 = 256 by decide] at this
  exact this

theorem k_bl2 (W : World) : Calls Try.prog 24 #[.agg #[.int .u64 1, .int .u64 0, .int .u64 0, .int .u64 0, .int .u64 18446744073709551614, .int .u64 18446744073709551615, .int .u64 18446744073709551615, .int .u64 18446744073709551615]] W fun e w' => e = .returned (.int .i64 512) ∧ Later W w' := by
  have := bitlen512_any 1 0 0 0 18446744073709551614 18446744073709551615 18446744073709551615 18446744073709551615 W (by decide)
  rw [show sizeTo [1, 0, 0, 0, 18446744073709551614, 18446744073709551615, 18446744073709551615, 18446744073709551615] 8 = 512 by decide] at this
  exact this

theorem k_bl3 (W : World) : Calls Try.prog 22 #[.agg #[.int .u64 0, .int .u64 0, .int .u64 0, .int .u64 0]] W fun e w' => e = .returned (.int .i64 0) ∧ Later W w' := by
  have := bitlen_any 0 0 0 0 W (by decide)
  rw [show sizeTo [0, 0, 0, 0] 4 = 0 by decide] at this
  exact this

theorem k_bl4 (W : World) : Calls Try.prog 22 #[.agg #[.int .u64 0, .int .u64 1, .int .u64 0, .int .u64 0]] W fun e w' => e = .returned (.int .i64 65) ∧ Later W w' := by
  have := bitlen_any 0 1 0 0 W (by decide)
  rw [show sizeTo [0, 1, 0, 0] 4 = 65 by decide] at this
  exact this

theorem k_c1 (W : World) : Calls Try.prog 19 #[.agg #[.int .u64 18446744073709551615, .int .u64 18446744073709551615, .int .u64 18446744073709551615, .int .u64 18446744073709551615], .agg #[.int .u64 0, .int .u64 0, .int .u64 0, .int .u64 0]] W fun e w' => e = .returned (.int .i64 1) ∧ Later W w' := by
  exact cmp256_any 18446744073709551615 18446744073709551615 18446744073709551615 18446744073709551615 0 0 0 0 1 (by decide) W

theorem k_c2 (W : World) : Calls Try.prog 19 #[.agg #[.int .u64 0, .int .u64 0, .int .u64 0, .int .u64 0], .agg #[.int .u64 0, .int .u64 0, .int .u64 0, .int .u64 0]] W fun e w' => e = .returned (.int .i64 0) ∧ Later W w' := by
  exact cmp256_any 0 0 0 0 0 0 0 0 0 (by decide) W

theorem k_e5 (W : World) : (Op.equalIn 10000 37 (.agg #[.int .u64 1, .int .u64 0, .int .u64 0, .int .u64 0, .int .u64 18446744073709551614, .int .u64 18446744073709551615, .int .u64 18446744073709551615, .int .u64 18446744073709551615]) (.agg #[.int .u64 1, .int .u64 0, .int .u64 0, .int .u64 0, .int .u64 18446744073709551614, .int .u64 18446744073709551615, .int .u64 18446744073709551615, .int .u64 18446744073709551615])).run Try.prog W = .ok true W := run_eq_arr 37 8 Try.underlying37 [1, 0, 0, 0, 18446744073709551614, 18446744073709551615, 18446744073709551615, 18446744073709551615] [1, 0, 0, 0, 18446744073709551614, 18446744073709551615, 18446744073709551615, 18446744073709551615] rfl rfl 9998 W

theorem k_ez (W : World) : (Op.equalIn 10000 24 (.agg #[.int .u64 0, .int .u64 0, .int .u64 0, .int .u64 0]) (.agg #[.int .u64 0, .int .u64 0, .int .u64 0, .int .u64 0])).run Try.prog W = .ok true W := run_eq_arr 24 4 Try.underlying24 [0, 0, 0, 0] [0, 0, 0, 0] rfl rfl 9998 W

theorem k_eo (W : World) : (Op.equalIn 10000 24 (.agg #[.int .u64 1, .int .u64 0, .int .u64 0, .int .u64 0]) (.agg #[.int .u64 1, .int .u64 0, .int .u64 0, .int .u64 0])).run Try.prog W = .ok true W := run_eq_arr 24 4 Try.underlying24 [1, 0, 0, 0] [1, 0, 0, 0] rfl rfl 9998 W

theorem k_eu (W : World) : (Op.equalIn 10000 54 (.agg #[.int .u64 0, .int .u64 0]) (.agg #[.int .u64 0, .int .u64 0])).run Try.prog W = .ok true W := run_eq_arr 54 2 Try.underlying54 [0, 0] [0, 0] rfl rfl 9998 W

set_option maxRecDepth 100000 in
set_option maxHeartbeats 8000000 in
theorem WideKnown_walk (w : World) :
    Calls Try.prog 6 #[] w fun e w' => e = .returned (.bool true) ∧ Below w.heap.size w w' := by
  go_enter Try.func6, Try.ntmps6
  have R1 : Shut (RowAt (w.alloc (.cells #[.int .u64 18446744073709551615, .int .u64 18446744073709551615, .int .u64 18446744073709551615, .int .u64 18446744073709551615] 24)) 24 w.heap.size 4 (U [18446744073709551615, 18446744073709551615, 18446744073709551615, 18446744073709551615])) := ⟨RowAt.arr _ 24 [18446744073709551615, 18446744073709551615, 18446744073709551615, 18446744073709551615] (show 4 < 1000000 by decide)⟩
  have L1 : Shut (Later w (w.alloc (.cells #[.int .u64 18446744073709551615, .int .u64 18446744073709551615, .int .u64 18446744073709551615, .int .u64 18446744073709551615] 24))) := ⟨Later.alloc _ _⟩
  have LW := L1
  clear L1
  go_upto_region 2 with fail
  generalize (w.alloc (.cells #[.int .u64 18446744073709551615, .int .u64 18446744073709551615, .int .u64 18446744073709551615, .int .u64 18446744073709551615] 24)) = W1 at *
  generalize w.heap.size = g1 at *
  have c1_0 : W1.cell? ⟨g1, 0, none⟩ = some (.int .u64 18446744073709551615) := (R1.out).u64 (k := 0) (show 0 < 4 by decide)
  have c1_1 : W1.cell? ⟨g1, 1, none⟩ = some (.int .u64 18446744073709551615) := (R1.out).u64 (k := 1) (show 1 < 4 by decide)
  have c1_2 : W1.cell? ⟨g1, 2, none⟩ = some (.int .u64 18446744073709551615) := (R1.out).u64 (k := 2) (show 2 < 4 by decide)
  have c1_3 : W1.cell? ⟨g1, 3, none⟩ = some (.int .u64 18446744073709551615) := (R1.out).u64 (k := 3) (show 3 < 4 by decide)
  go_wp2_with fail
  refine (k_mul _).mono ?_
  rintro e w2 ⟨rfl, hb⟩
  have R2 : Shut (RowAt (w2.alloc (.cells #[.int .u64 1, .int .u64 0, .int .u64 0, .int .u64 0, .int .u64 18446744073709551614, .int .u64 18446744073709551615, .int .u64 18446744073709551615, .int .u64 18446744073709551615] 37)) 37 w2.heap.size 8 (U [1, 0, 0, 0, 18446744073709551614, 18446744073709551615, 18446744073709551615, 18446744073709551615])) := ⟨RowAt.arr _ 37 [1, 0, 0, 0, 18446744073709551614, 18446744073709551615, 18446744073709551615, 18446744073709551615] (show 8 < 1000000 by decide)⟩
  have L2 : Shut (Later W1 (w2.alloc (.cells #[.int .u64 1, .int .u64 0, .int .u64 0, .int .u64 0, .int .u64 18446744073709551614, .int .u64 18446744073709551615, .int .u64 18446744073709551615, .int .u64 18446744073709551615] 37))) := ⟨hb.trans (Later.alloc _ _)⟩
  clear hb c1_0 c1_1 c1_2 c1_3
  go_upto_region 3 with fail
  generalize (w2.alloc (.cells #[.int .u64 1, .int .u64 0, .int .u64 0, .int .u64 0, .int .u64 18446744073709551614, .int .u64 18446744073709551615, .int .u64 18446744073709551615, .int .u64 18446744073709551615] 37)) = W2 at *
  generalize w2.heap.size = g2 at *
  replace R1 := Shut.mk (L2.out.at_ R1.out)
  replace LW := Shut.mk (LW.out.trans L2.out)
  clear L2
  have c1_0 : W2.cell? ⟨g1, 0, none⟩ = some (.int .u64 18446744073709551615) := (R1.out).u64 (k := 0) (show 0 < 4 by decide)
  have c1_1 : W2.cell? ⟨g1, 1, none⟩ = some (.int .u64 18446744073709551615) := (R1.out).u64 (k := 1) (show 1 < 4 by decide)
  have c1_2 : W2.cell? ⟨g1, 2, none⟩ = some (.int .u64 18446744073709551615) := (R1.out).u64 (k := 2) (show 2 < 4 by decide)
  have c1_3 : W2.cell? ⟨g1, 3, none⟩ = some (.int .u64 18446744073709551615) := (R1.out).u64 (k := 3) (show 3 < 4 by decide)
  go_wp2_with fail
  refine (k_add _).mono ?_
  rintro e w3 ⟨rfl, hb⟩
  have R3 : Shut (RowAt (w3.alloc (.cells #[.int .u64 0, .int .u64 0, .int .u64 0, .int .u64 0] 24)) 24 w3.heap.size 4 (U [0, 0, 0, 0])) := ⟨RowAt.arr _ 24 [0, 0, 0, 0] (show 4 < 1000000 by decide)⟩
  have L3 : Shut (Later W2 (w3.alloc (.cells #[.int .u64 0, .int .u64 0, .int .u64 0, .int .u64 0] 24))) := ⟨hb.trans (Later.alloc _ _)⟩
  clear hb c1_0 c1_1 c1_2 c1_3
  go_upto_region 4 with fail
  generalize (w3.alloc (.cells #[.int .u64 0, .int .u64 0, .int .u64 0, .int .u64 0] 24)) = W3 at *
  generalize w3.heap.size = g3 at *
  replace R1 := Shut.mk (L3.out.at_ R1.out)
  replace R2 := Shut.mk (L3.out.at_ R2.out)
  replace LW := Shut.mk (LW.out.trans L3.out)
  clear L3
  have c2_0 : W3.cell? ⟨g2, 0, none⟩ = some (.int .u64 1) := (R2.out).u64 (k := 0) (show 0 < 8 by decide)
  have c2_1 : W3.cell? ⟨g2, 1, none⟩ = some (.int .u64 0) := (R2.out).u64 (k := 1) (show 1 < 8 by decide)
  have c2_2 : W3.cell? ⟨g2, 2, none⟩ = some (.int .u64 0) := (R2.out).u64 (k := 2) (show 2 < 8 by decide)
  have c2_3 : W3.cell? ⟨g2, 3, none⟩ = some (.int .u64 0) := (R2.out).u64 (k := 3) (show 3 < 8 by decide)
  have c2_4 : W3.cell? ⟨g2, 4, none⟩ = some (.int .u64 18446744073709551614) := (R2.out).u64 (k := 4) (show 4 < 8 by decide)
  have c2_5 : W3.cell? ⟨g2, 5, none⟩ = some (.int .u64 18446744073709551615) := (R2.out).u64 (k := 5) (show 5 < 8 by decide)
  have c2_6 : W3.cell? ⟨g2, 6, none⟩ = some (.int .u64 18446744073709551615) := (R2.out).u64 (k := 6) (show 6 < 8 by decide)
  have c2_7 : W3.cell? ⟨g2, 7, none⟩ = some (.int .u64 18446744073709551615) := (R2.out).u64 (k := 7) (show 7 < 8 by decide)
  go_wp2_with fail
  refine (k_low _).mono ?_
  rintro e w4 ⟨rfl, hb⟩
  have R5 : Shut (RowAt (w4.alloc (.cells #[.int .u64 1, .int .u64 0, .int .u64 0, .int .u64 0] 24)) 24 w4.heap.size 4 (U [1, 0, 0, 0])) := ⟨RowAt.arr _ 24 [1, 0, 0, 0] (show 4 < 1000000 by decide)⟩
  have L4 : Shut (Later W3 (w4.alloc (.cells #[.int .u64 1, .int .u64 0, .int .u64 0, .int .u64 0] 24))) := ⟨hb.trans (Later.alloc _ _)⟩
  clear hb c2_0 c2_1 c2_2 c2_3 c2_4 c2_5 c2_6 c2_7
  go_upto_region 5 with fail
  generalize (w4.alloc (.cells #[.int .u64 1, .int .u64 0, .int .u64 0, .int .u64 0] 24)) = W4 at *
  generalize w4.heap.size = g5 at *
  replace R1 := Shut.mk (L4.out.at_ R1.out)
  replace R2 := Shut.mk (L4.out.at_ R2.out)
  replace R3 := Shut.mk (L4.out.at_ R3.out)
  replace LW := Shut.mk (LW.out.trans L4.out)
  clear L4
  have c1_0 : W4.cell? ⟨g1, 0, none⟩ = some (.int .u64 18446744073709551615) := (R1.out).u64 (k := 0) (show 0 < 4 by decide)
  have c1_1 : W4.cell? ⟨g1, 1, none⟩ = some (.int .u64 18446744073709551615) := (R1.out).u64 (k := 1) (show 1 < 4 by decide)
  have c1_2 : W4.cell? ⟨g1, 2, none⟩ = some (.int .u64 18446744073709551615) := (R1.out).u64 (k := 2) (show 2 < 4 by decide)
  have c1_3 : W4.cell? ⟨g1, 3, none⟩ = some (.int .u64 18446744073709551615) := (R1.out).u64 (k := 3) (show 3 < 4 by decide)
  go_wp2_with fail
  refine (k_dm _).mono ?_
  rintro e w5 ⟨rfl, hb⟩
  have RQ' := (RowAt.arr w5 24 [0, 0, 0, 0] (show 4 < 1000000 by decide)).alloc (.cells #[.int .u64 0, .int .u64 0, .int .u64 0, .int .u64 0] 24)
  have RR' := RowAt.arr (w5.alloc (.cells #[.int .u64 0, .int .u64 0, .int .u64 0, .int .u64 0] 24)) 24 [0, 0, 0, 0] (show 4 < 1000000 by decide)
  rw [World.size_alloc] at RR'
  have R7 : Shut (RowAt ((w5.alloc (.cells #[.int .u64 0, .int .u64 0, .int .u64 0, .int .u64 0] 24)).alloc (.cells #[.int .u64 0, .int .u64 0, .int .u64 0, .int .u64 0] 24)) 24 w5.heap.size 4 (U [0, 0, 0, 0])) := ⟨RQ'⟩
  have R8 : Shut (RowAt ((w5.alloc (.cells #[.int .u64 0, .int .u64 0, .int .u64 0, .int .u64 0] 24)).alloc (.cells #[.int .u64 0, .int .u64 0, .int .u64 0, .int .u64 0] 24)) 24 (w5.heap.size + 1) 4 (U [0, 0, 0, 0])) := ⟨RR'⟩
  have L5 : Shut (Later W4 ((w5.alloc (.cells #[.int .u64 0, .int .u64 0, .int .u64 0, .int .u64 0] 24)).alloc (.cells #[.int .u64 0, .int .u64 0, .int .u64 0, .int .u64 0] 24))) := ⟨hb.trans ((Later.alloc _ _).trans (Later.alloc _ _))⟩
  clear RQ' RR'
  clear hb c1_0 c1_1 c1_2 c1_3
  go_upto_region 6 with fail
  generalize ((w5.alloc (.cells #[.int .u64 0, .int .u64 0, .int .u64 0, .int .u64 0] 24)).alloc (.cells #[.int .u64 0, .int .u64 0, .int .u64 0, .int .u64 0] 24)) = W5 at *
  generalize w5.heap.size + 1 = g8 at *
  generalize w5.heap.size = g7 at *
  replace R1 := Shut.mk (L5.out.at_ R1.out)
  replace R2 := Shut.mk (L5.out.at_ R2.out)
  replace R3 := Shut.mk (L5.out.at_ R3.out)
  replace R5 := Shut.mk (L5.out.at_ R5.out)
  replace LW := Shut.mk (LW.out.trans L5.out)
  clear L5
  go_wp2_with fail
  refine (k_d8 _).mono ?_
  rintro e w6 ⟨rfl, hb⟩
  have R10 : Shut (RowAt (w6.alloc (.cells #[.int .u64 0, .int .u64 0] 54)) 54 w6.heap.size 2 (U [0, 0])) := ⟨RowAt.arr _ 54 [0, 0] (show 2 < 1000000 by decide)⟩
  have L6 : Shut (Later W5 (w6.alloc (.cells #[.int .u64 0, .int .u64 0] 54))) := ⟨hb.trans (Later.alloc _ _)⟩
  clear hb 
  go_upto_region 7 with fail
  generalize (w6.alloc (.cells #[.int .u64 0, .int .u64 0] 54)) = W6 at *
  generalize w6.heap.size = g10 at *
  replace R1 := Shut.mk (L6.out.at_ R1.out)
  replace R2 := Shut.mk (L6.out.at_ R2.out)
  replace R3 := Shut.mk (L6.out.at_ R3.out)
  replace R5 := Shut.mk (L6.out.at_ R5.out)
  replace R7 := Shut.mk (L6.out.at_ R7.out)
  replace R8 := Shut.mk (L6.out.at_ R8.out)
  replace LW := Shut.mk (LW.out.trans L6.out)
  clear L6
  have c1_0 : W6.cell? ⟨g1, 0, none⟩ = some (.int .u64 18446744073709551615) := (R1.out).u64 (k := 0) (show 0 < 4 by decide)
  have c1_1 : W6.cell? ⟨g1, 1, none⟩ = some (.int .u64 18446744073709551615) := (R1.out).u64 (k := 1) (show 1 < 4 by decide)
  have c1_2 : W6.cell? ⟨g1, 2, none⟩ = some (.int .u64 18446744073709551615) := (R1.out).u64 (k := 2) (show 2 < 4 by decide)
  have c1_3 : W6.cell? ⟨g1, 3, none⟩ = some (.int .u64 18446744073709551615) := (R1.out).u64 (k := 3) (show 3 < 4 by decide)
  go_wp2_with fail
  refine (k_shr1 _).mono ?_
  rintro e w7 ⟨rfl, hb⟩
  have R13 : Shut (RowAt (w7.alloc (.cells #[.int .u64 1, .int .u64 0, .int .u64 0, .int .u64 0] 24)) 24 w7.heap.size 4 (U [1, 0, 0, 0])) := ⟨RowAt.arr _ 24 [1, 0, 0, 0] (show 4 < 1000000 by decide)⟩
  have L7 : Shut (Later W6 (w7.alloc (.cells #[.int .u64 1, .int .u64 0, .int .u64 0, .int .u64 0] 24))) := ⟨hb.trans (Later.alloc _ _)⟩
  clear hb c1_0 c1_1 c1_2 c1_3
  go_upto_region 8 with fail
  generalize (w7.alloc (.cells #[.int .u64 1, .int .u64 0, .int .u64 0, .int .u64 0] 24)) = W7 at *
  generalize w7.heap.size = g13 at *
  replace R1 := Shut.mk (L7.out.at_ R1.out)
  replace R2 := Shut.mk (L7.out.at_ R2.out)
  replace R3 := Shut.mk (L7.out.at_ R3.out)
  replace R5 := Shut.mk (L7.out.at_ R5.out)
  replace R7 := Shut.mk (L7.out.at_ R7.out)
  replace R8 := Shut.mk (L7.out.at_ R8.out)
  replace R10 := Shut.mk (L7.out.at_ R10.out)
  replace LW := Shut.mk (LW.out.trans L7.out)
  clear L7
  have c1_0 : W7.cell? ⟨g1, 0, none⟩ = some (.int .u64 18446744073709551615) := (R1.out).u64 (k := 0) (show 0 < 4 by decide)
  have c1_1 : W7.cell? ⟨g1, 1, none⟩ = some (.int .u64 18446744073709551615) := (R1.out).u64 (k := 1) (show 1 < 4 by decide)
  have c1_2 : W7.cell? ⟨g1, 2, none⟩ = some (.int .u64 18446744073709551615) := (R1.out).u64 (k := 2) (show 2 < 4 by decide)
  have c1_3 : W7.cell? ⟨g1, 3, none⟩ = some (.int .u64 18446744073709551615) := (R1.out).u64 (k := 3) (show 3 < 4 by decide)
  go_wp2_with fail
  refine (k_shl _).mono ?_
  rintro e w8 ⟨rfl, hb⟩
  have R15 : Shut (RowAt (w8.alloc (.cells #[.int .u64 0, .int .u64 0, .int .u64 0, .int .u64 0] 24)) 24 w8.heap.size 4 (U [0, 0, 0, 0])) := ⟨RowAt.arr _ 24 [0, 0, 0, 0] (show 4 < 1000000 by decide)⟩
  have L8 : Shut (Later W7 (w8.alloc (.cells #[.int .u64 0, .int .u64 0, .int .u64 0, .int .u64 0] 24))) := ⟨hb.trans (Later.alloc _ _)⟩
  clear hb c1_0 c1_1 c1_2 c1_3
  go_upto_region 9 with fail
  generalize (w8.alloc (.cells #[.int .u64 0, .int .u64 0, .int .u64 0, .int .u64 0] 24)) = W8 at *
  generalize w8.heap.size = g15 at *
  replace R1 := Shut.mk (L8.out.at_ R1.out)
  replace R2 := Shut.mk (L8.out.at_ R2.out)
  replace R3 := Shut.mk (L8.out.at_ R3.out)
  replace R5 := Shut.mk (L8.out.at_ R5.out)
  replace R7 := Shut.mk (L8.out.at_ R7.out)
  replace R8 := Shut.mk (L8.out.at_ R8.out)
  replace R10 := Shut.mk (L8.out.at_ R10.out)
  replace R13 := Shut.mk (L8.out.at_ R13.out)
  replace LW := Shut.mk (LW.out.trans L8.out)
  clear L8
  go_wp2_with fail
  refine (k_shr2 _).mono ?_
  rintro e w9 ⟨rfl, hb⟩
  have R17 : Shut (RowAt (w9.alloc (.cells #[.int .u64 1, .int .u64 0, .int .u64 0, .int .u64 0] 24)) 24 w9.heap.size 4 (U [1, 0, 0, 0])) := ⟨RowAt.arr _ 24 [1, 0, 0, 0] (show 4 < 1000000 by decide)⟩
  have L9 : Shut (Later W8 (w9.alloc (.cells #[.int .u64 1, .int .u64 0, .int .u64 0, .int .u64 0] 24))) := ⟨hb.trans (Later.alloc _ _)⟩
  clear hb 
  go_upto_region 10 with fail
  generalize (w9.alloc (.cells #[.int .u64 1, .int .u64 0, .int .u64 0, .int .u64 0] 24)) = W9 at *
  generalize w9.heap.size = g17 at *
  replace R1 := Shut.mk (L9.out.at_ R1.out)
  replace R2 := Shut.mk (L9.out.at_ R2.out)
  replace R3 := Shut.mk (L9.out.at_ R3.out)
  replace R5 := Shut.mk (L9.out.at_ R5.out)
  replace R7 := Shut.mk (L9.out.at_ R7.out)
  replace R8 := Shut.mk (L9.out.at_ R8.out)
  replace R10 := Shut.mk (L9.out.at_ R10.out)
  replace R13 := Shut.mk (L9.out.at_ R13.out)
  replace R15 := Shut.mk (L9.out.at_ R15.out)
  replace LW := Shut.mk (LW.out.trans L9.out)
  clear L9
  have c2_0 : W9.cell? ⟨g2, 0, none⟩ = some (.int .u64 1) := (R2.out).u64 (k := 0) (show 0 < 8 by decide)
  have c2_1 : W9.cell? ⟨g2, 1, none⟩ = some (.int .u64 0) := (R2.out).u64 (k := 1) (show 1 < 8 by decide)
  have c2_2 : W9.cell? ⟨g2, 2, none⟩ = some (.int .u64 0) := (R2.out).u64 (k := 2) (show 2 < 8 by decide)
  have c2_3 : W9.cell? ⟨g2, 3, none⟩ = some (.int .u64 0) := (R2.out).u64 (k := 3) (show 3 < 8 by decide)
  have c2_4 : W9.cell? ⟨g2, 4, none⟩ = some (.int .u64 18446744073709551614) := (R2.out).u64 (k := 4) (show 4 < 8 by decide)
  have c2_5 : W9.cell? ⟨g2, 5, none⟩ = some (.int .u64 18446744073709551615) := (R2.out).u64 (k := 5) (show 5 < 8 by decide)
  have c2_6 : W9.cell? ⟨g2, 6, none⟩ = some (.int .u64 18446744073709551615) := (R2.out).u64 (k := 6) (show 6 < 8 by decide)
  have c2_7 : W9.cell? ⟨g2, 7, none⟩ = some (.int .u64 18446744073709551615) := (R2.out).u64 (k := 7) (show 7 < 8 by decide)
  go_wp2_with fail
  refine (k_add5 _).mono ?_
  rintro e w10 ⟨rfl, hb⟩
  have R19 : Shut (RowAt (w10.alloc (.cells #[.int .u64 2, .int .u64 0, .int .u64 0, .int .u64 0, .int .u64 18446744073709551612, .int .u64 18446744073709551615, .int .u64 18446744073709551615, .int .u64 18446744073709551615] 37)) 37 w10.heap.size 8 (U [2, 0, 0, 0, 18446744073709551612, 18446744073709551615, 18446744073709551615, 18446744073709551615])) := ⟨RowAt.arr _ 37 [2, 0, 0, 0, 18446744073709551612, 18446744073709551615, 18446744073709551615, 18446744073709551615] (show 8 < 1000000 by decide)⟩
  have L10 : Shut (Later W9 (w10.alloc (.cells #[.int .u64 2, .int .u64 0, .int .u64 0, .int .u64 0, .int .u64 18446744073709551612, .int .u64 18446744073709551615, .int .u64 18446744073709551615, .int .u64 18446744073709551615] 37))) := ⟨hb.trans (Later.alloc _ _)⟩
  clear hb c2_0 c2_1 c2_2 c2_3 c2_4 c2_5 c2_6 c2_7
  go_wp2_with fail
  refine (works_any _).mono ?_
  rintro e w11 ⟨rfl, hb⟩
  generalize w10.heap.size = g19 at *
  generalize (w10.alloc (.cells #[.int .u64 2, .int .u64 0, .int .u64 0, .int .u64 0, .int .u64 18446744073709551612, .int .u64 18446744073709551615, .int .u64 18446744073709551615, .int .u64 18446744073709551615] 37)) = W10 at *
  replace R1 := Shut.mk ((L10.out.trans hb).at_ R1.out)
  replace R2 := Shut.mk ((L10.out.trans hb).at_ R2.out)
  replace R3 := Shut.mk ((L10.out.trans hb).at_ R3.out)
  replace R5 := Shut.mk ((L10.out.trans hb).at_ R5.out)
  replace R7 := Shut.mk ((L10.out.trans hb).at_ R7.out)
  replace R8 := Shut.mk ((L10.out.trans hb).at_ R8.out)
  replace R10 := Shut.mk ((L10.out.trans hb).at_ R10.out)
  replace R13 := Shut.mk ((L10.out.trans hb).at_ R13.out)
  replace R15 := Shut.mk ((L10.out.trans hb).at_ R15.out)
  replace R17 := Shut.mk ((L10.out.trans hb).at_ R17.out)
  replace R19 := Shut.mk (Later.at_ R19.out hb)
  replace LW := Shut.mk (LW.out.trans (L10.out.trans hb))
  clear hb L10
  have E5 := k_e5
  have EZ := k_ez
  have EO := k_eo
  have EU := k_eu
  have c1_0 : w11.cell? ⟨g1, 0, none⟩ = some (.int .u64 18446744073709551615) := (R1.out).u64 (k := 0) (show 0 < 4 by decide)
  have c1_1 : w11.cell? ⟨g1, 1, none⟩ = some (.int .u64 18446744073709551615) := (R1.out).u64 (k := 1) (show 1 < 4 by decide)
  have c1_2 : w11.cell? ⟨g1, 2, none⟩ = some (.int .u64 18446744073709551615) := (R1.out).u64 (k := 2) (show 2 < 4 by decide)
  have c1_3 : w11.cell? ⟨g1, 3, none⟩ = some (.int .u64 18446744073709551615) := (R1.out).u64 (k := 3) (show 3 < 4 by decide)
  have c2_0 : w11.cell? ⟨g2, 0, none⟩ = some (.int .u64 1) := (R2.out).u64 (k := 0) (show 0 < 8 by decide)
  have c2_1 : w11.cell? ⟨g2, 1, none⟩ = some (.int .u64 0) := (R2.out).u64 (k := 1) (show 1 < 8 by decide)
  have c2_2 : w11.cell? ⟨g2, 2, none⟩ = some (.int .u64 0) := (R2.out).u64 (k := 2) (show 2 < 8 by decide)
  have c2_3 : w11.cell? ⟨g2, 3, none⟩ = some (.int .u64 0) := (R2.out).u64 (k := 3) (show 3 < 8 by decide)
  have c2_4 : w11.cell? ⟨g2, 4, none⟩ = some (.int .u64 18446744073709551614) := (R2.out).u64 (k := 4) (show 4 < 8 by decide)
  have c2_5 : w11.cell? ⟨g2, 5, none⟩ = some (.int .u64 18446744073709551615) := (R2.out).u64 (k := 5) (show 5 < 8 by decide)
  have c2_6 : w11.cell? ⟨g2, 6, none⟩ = some (.int .u64 18446744073709551615) := (R2.out).u64 (k := 6) (show 6 < 8 by decide)
  have c2_7 : w11.cell? ⟨g2, 7, none⟩ = some (.int .u64 18446744073709551615) := (R2.out).u64 (k := 7) (show 7 < 8 by decide)
  have c3_0 : w11.cell? ⟨g3, 0, none⟩ = some (.int .u64 0) := (R3.out).u64 (k := 0) (show 0 < 4 by decide)
  have c3_1 : w11.cell? ⟨g3, 1, none⟩ = some (.int .u64 0) := (R3.out).u64 (k := 1) (show 1 < 4 by decide)
  have c3_2 : w11.cell? ⟨g3, 2, none⟩ = some (.int .u64 0) := (R3.out).u64 (k := 2) (show 2 < 4 by decide)
  have c3_3 : w11.cell? ⟨g3, 3, none⟩ = some (.int .u64 0) := (R3.out).u64 (k := 3) (show 3 < 4 by decide)
  have c5_0 : w11.cell? ⟨g5, 0, none⟩ = some (.int .u64 1) := (R5.out).u64 (k := 0) (show 0 < 4 by decide)
  have c5_1 : w11.cell? ⟨g5, 1, none⟩ = some (.int .u64 0) := (R5.out).u64 (k := 1) (show 1 < 4 by decide)
  have c5_2 : w11.cell? ⟨g5, 2, none⟩ = some (.int .u64 0) := (R5.out).u64 (k := 2) (show 2 < 4 by decide)
  have c5_3 : w11.cell? ⟨g5, 3, none⟩ = some (.int .u64 0) := (R5.out).u64 (k := 3) (show 3 < 4 by decide)
  have c7_0 : w11.cell? ⟨g7, 0, none⟩ = some (.int .u64 0) := (R7.out).u64 (k := 0) (show 0 < 4 by decide)
  have c7_1 : w11.cell? ⟨g7, 1, none⟩ = some (.int .u64 0) := (R7.out).u64 (k := 1) (show 1 < 4 by decide)
  have c7_2 : w11.cell? ⟨g7, 2, none⟩ = some (.int .u64 0) := (R7.out).u64 (k := 2) (show 2 < 4 by decide)
  have c7_3 : w11.cell? ⟨g7, 3, none⟩ = some (.int .u64 0) := (R7.out).u64 (k := 3) (show 3 < 4 by decide)
  have c8_0 : w11.cell? ⟨g8, 0, none⟩ = some (.int .u64 0) := (R8.out).u64 (k := 0) (show 0 < 4 by decide)
  have c8_1 : w11.cell? ⟨g8, 1, none⟩ = some (.int .u64 0) := (R8.out).u64 (k := 1) (show 1 < 4 by decide)
  have c8_2 : w11.cell? ⟨g8, 2, none⟩ = some (.int .u64 0) := (R8.out).u64 (k := 2) (show 2 < 4 by decide)
  have c8_3 : w11.cell? ⟨g8, 3, none⟩ = some (.int .u64 0) := (R8.out).u64 (k := 3) (show 3 < 4 by decide)
  have c10_0 : w11.cell? ⟨g10, 0, none⟩ = some (.int .u64 0) := (R10.out).u64 (k := 0) (show 0 < 2 by decide)
  have c10_1 : w11.cell? ⟨g10, 1, none⟩ = some (.int .u64 0) := (R10.out).u64 (k := 1) (show 1 < 2 by decide)
  have c13_0 : w11.cell? ⟨g13, 0, none⟩ = some (.int .u64 1) := (R13.out).u64 (k := 0) (show 0 < 4 by decide)
  have c13_1 : w11.cell? ⟨g13, 1, none⟩ = some (.int .u64 0) := (R13.out).u64 (k := 1) (show 1 < 4 by decide)
  have c13_2 : w11.cell? ⟨g13, 2, none⟩ = some (.int .u64 0) := (R13.out).u64 (k := 2) (show 2 < 4 by decide)
  have c13_3 : w11.cell? ⟨g13, 3, none⟩ = some (.int .u64 0) := (R13.out).u64 (k := 3) (show 3 < 4 by decide)
  have c15_0 : w11.cell? ⟨g15, 0, none⟩ = some (.int .u64 0) := (R15.out).u64 (k := 0) (show 0 < 4 by decide)
  have c15_1 : w11.cell? ⟨g15, 1, none⟩ = some (.int .u64 0) := (R15.out).u64 (k := 1) (show 1 < 4 by decide)
  have c15_2 : w11.cell? ⟨g15, 2, none⟩ = some (.int .u64 0) := (R15.out).u64 (k := 2) (show 2 < 4 by decide)
  have c15_3 : w11.cell? ⟨g15, 3, none⟩ = some (.int .u64 0) := (R15.out).u64 (k := 3) (show 3 < 4 by decide)
  have c17_0 : w11.cell? ⟨g17, 0, none⟩ = some (.int .u64 1) := (R17.out).u64 (k := 0) (show 0 < 4 by decide)
  have c17_1 : w11.cell? ⟨g17, 1, none⟩ = some (.int .u64 0) := (R17.out).u64 (k := 1) (show 1 < 4 by decide)
  have c17_2 : w11.cell? ⟨g17, 2, none⟩ = some (.int .u64 0) := (R17.out).u64 (k := 2) (show 2 < 4 by decide)
  have c17_3 : w11.cell? ⟨g17, 3, none⟩ = some (.int .u64 0) := (R17.out).u64 (k := 3) (show 3 < 4 by decide)
  have c19_0 : w11.cell? ⟨g19, 0, none⟩ = some (.int .u64 2) := (R19.out).u64 (k := 0) (show 0 < 8 by decide)
  have c19_1 : w11.cell? ⟨g19, 1, none⟩ = some (.int .u64 0) := (R19.out).u64 (k := 1) (show 1 < 8 by decide)
  have c19_2 : w11.cell? ⟨g19, 2, none⟩ = some (.int .u64 0) := (R19.out).u64 (k := 2) (show 2 < 8 by decide)
  have c19_3 : w11.cell? ⟨g19, 3, none⟩ = some (.int .u64 0) := (R19.out).u64 (k := 3) (show 3 < 8 by decide)
  have c19_4 : w11.cell? ⟨g19, 4, none⟩ = some (.int .u64 18446744073709551612) := (R19.out).u64 (k := 4) (show 4 < 8 by decide)
  have c19_5 : w11.cell? ⟨g19, 5, none⟩ = some (.int .u64 18446744073709551615) := (R19.out).u64 (k := 5) (show 5 < 8 by decide)
  have c19_6 : w11.cell? ⟨g19, 6, none⟩ = some (.int .u64 18446744073709551615) := (R19.out).u64 (k := 6) (show 6 < 8 by decide)
  have c19_7 : w11.cell? ⟨g19, 7, none⟩ = some (.int .u64 18446744073709551615) := (R19.out).u64 (k := 7) (show 7 < 8 by decide)
  go_wp2_with fail
  refine (k_bl1 _).mono ?_
  rintro e w12 ⟨rfl, hb⟩
  clear c1_0 c1_1 c1_2 c1_3 c2_0 c2_1 c2_2 c2_3 c2_4 c2_5 c2_6 c2_7 c3_0 c3_1 c3_2 c3_3 c5_0 c5_1 c5_2 c5_3 c7_0 c7_1 c7_2 c7_3 c8_0 c8_1 c8_2 c8_3 c10_0 c10_1 c13_0 c13_1 c13_2 c13_3 c15_0 c15_1 c15_2 c15_3 c17_0 c17_1 c17_2 c17_3 c19_0 c19_1 c19_2 c19_3 c19_4 c19_5 c19_6 c19_7
  replace R1 := Shut.mk (Later.at_ R1.out hb)
  replace R2 := Shut.mk (Later.at_ R2.out hb)
  replace R3 := Shut.mk (Later.at_ R3.out hb)
  replace LW := Shut.mk (LW.out.trans hb)
  clear hb
  have c2_0 : w12.cell? ⟨g2, 0, none⟩ = some (.int .u64 1) := (R2.out).u64 (k := 0) (show 0 < 8 by decide)
  have c2_1 : w12.cell? ⟨g2, 1, none⟩ = some (.int .u64 0) := (R2.out).u64 (k := 1) (show 1 < 8 by decide)
  have c2_2 : w12.cell? ⟨g2, 2, none⟩ = some (.int .u64 0) := (R2.out).u64 (k := 2) (show 2 < 8 by decide)
  have c2_3 : w12.cell? ⟨g2, 3, none⟩ = some (.int .u64 0) := (R2.out).u64 (k := 3) (show 3 < 8 by decide)
  have c2_4 : w12.cell? ⟨g2, 4, none⟩ = some (.int .u64 18446744073709551614) := (R2.out).u64 (k := 4) (show 4 < 8 by decide)
  have c2_5 : w12.cell? ⟨g2, 5, none⟩ = some (.int .u64 18446744073709551615) := (R2.out).u64 (k := 5) (show 5 < 8 by decide)
  have c2_6 : w12.cell? ⟨g2, 6, none⟩ = some (.int .u64 18446744073709551615) := (R2.out).u64 (k := 6) (show 6 < 8 by decide)
  have c2_7 : w12.cell? ⟨g2, 7, none⟩ = some (.int .u64 18446744073709551615) := (R2.out).u64 (k := 7) (show 7 < 8 by decide)
  go_wp2_with fail
  refine (k_bl2 _).mono ?_
  rintro e w13 ⟨rfl, hb⟩
  clear c2_0 c2_1 c2_2 c2_3 c2_4 c2_5 c2_6 c2_7
  replace R1 := Shut.mk (Later.at_ R1.out hb)
  replace R3 := Shut.mk (Later.at_ R3.out hb)
  replace LW := Shut.mk (LW.out.trans hb)
  clear hb
  have c3_0 : w13.cell? ⟨g3, 0, none⟩ = some (.int .u64 0) := (R3.out).u64 (k := 0) (show 0 < 4 by decide)
  have c3_1 : w13.cell? ⟨g3, 1, none⟩ = some (.int .u64 0) := (R3.out).u64 (k := 1) (show 1 < 4 by decide)
  have c3_2 : w13.cell? ⟨g3, 2, none⟩ = some (.int .u64 0) := (R3.out).u64 (k := 2) (show 2 < 4 by decide)
  have c3_3 : w13.cell? ⟨g3, 3, none⟩ = some (.int .u64 0) := (R3.out).u64 (k := 3) (show 3 < 4 by decide)
  go_wp2_with fail
  refine (k_bl3 _).mono ?_
  rintro e w14 ⟨rfl, hb⟩
  clear c3_0 c3_1 c3_2 c3_3
  replace R1 := Shut.mk (Later.at_ R1.out hb)
  replace R3 := Shut.mk (Later.at_ R3.out hb)
  replace LW := Shut.mk (LW.out.trans hb)
  clear hb
  go_wp2_with fail
  refine (k_bl4 _).mono ?_
  rintro e w15 ⟨rfl, hb⟩
  replace R1 := Shut.mk (Later.at_ R1.out hb)
  replace R3 := Shut.mk (Later.at_ R3.out hb)
  replace LW := Shut.mk (LW.out.trans hb)
  clear hb
  have c1_0 : w15.cell? ⟨g1, 0, none⟩ = some (.int .u64 18446744073709551615) := (R1.out).u64 (k := 0) (show 0 < 4 by decide)
  have c1_1 : w15.cell? ⟨g1, 1, none⟩ = some (.int .u64 18446744073709551615) := (R1.out).u64 (k := 1) (show 1 < 4 by decide)
  have c1_2 : w15.cell? ⟨g1, 2, none⟩ = some (.int .u64 18446744073709551615) := (R1.out).u64 (k := 2) (show 2 < 4 by decide)
  have c1_3 : w15.cell? ⟨g1, 3, none⟩ = some (.int .u64 18446744073709551615) := (R1.out).u64 (k := 3) (show 3 < 4 by decide)
  have c3_0 : w15.cell? ⟨g3, 0, none⟩ = some (.int .u64 0) := (R3.out).u64 (k := 0) (show 0 < 4 by decide)
  have c3_1 : w15.cell? ⟨g3, 1, none⟩ = some (.int .u64 0) := (R3.out).u64 (k := 1) (show 1 < 4 by decide)
  have c3_2 : w15.cell? ⟨g3, 2, none⟩ = some (.int .u64 0) := (R3.out).u64 (k := 2) (show 2 < 4 by decide)
  have c3_3 : w15.cell? ⟨g3, 3, none⟩ = some (.int .u64 0) := (R3.out).u64 (k := 3) (show 3 < 4 by decide)
  go_wp2_with fail
  refine (k_c1 _).mono ?_
  rintro e w16 ⟨rfl, hb⟩
  clear c1_0 c1_1 c1_2 c1_3 c3_0 c3_1 c3_2 c3_3
  replace R3 := Shut.mk (Later.at_ R3.out hb)
  replace LW := Shut.mk (LW.out.trans hb)
  clear hb
  have c3_0 : w16.cell? ⟨g3, 0, none⟩ = some (.int .u64 0) := (R3.out).u64 (k := 0) (show 0 < 4 by decide)
  have c3_1 : w16.cell? ⟨g3, 1, none⟩ = some (.int .u64 0) := (R3.out).u64 (k := 1) (show 1 < 4 by decide)
  have c3_2 : w16.cell? ⟨g3, 2, none⟩ = some (.int .u64 0) := (R3.out).u64 (k := 2) (show 2 < 4 by decide)
  have c3_3 : w16.cell? ⟨g3, 3, none⟩ = some (.int .u64 0) := (R3.out).u64 (k := 3) (show 3 < 4 by decide)
  go_wp2_with fail
  refine (k_c2 _).mono ?_
  rintro e w17 ⟨rfl, hb⟩
  clear c3_0 c3_1 c3_2 c3_3
  go_wp2_with fail
  go_ret
  exact ⟨rfl, LW.out.trans hb⟩

end Go.Proofs.Ytdgklodhgbbdjaa
