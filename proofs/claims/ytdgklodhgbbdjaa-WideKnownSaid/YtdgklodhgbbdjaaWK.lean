/- Walks: Mul64, Div128, works. -/
import Derived.Test.YtdgklodhgbbdjaaWJ
namespace Go.Proofs.Ytdgklodhgbbdjaa
set_option linter.unusedVariables false
set_option linter.unusedSimpArgs false
open Go Go.RowKit

theorem div64_any (hi lo y : Nat) (hlt : hi < y) (hl : lo < 18446744073709551616) (hy : y < 18446744073709551616) (w : World) :
    Calls Try.prog 41 #[.int .u64 hi, .int .u64 lo, .int .u64 y] w fun e w' => e = .returned (.tuple #[.int .u64 ((hi * 18446744073709551616 + lo) / y : Nat), .int .u64 ((hi * 18446744073709551616 + lo) % y : Nat)]) ∧ Below w.heap.size w w' := by
  rcases Nat.eq_zero_or_pos hi with rfl | hh
  · have := div64_low lo y hlt hl w
    rw [Nat.zero_mul, Nat.zero_add]
    exact this
  · exact (div64_high hi lo y hh hlt hl hy w).mono fun e w' ⟨a, b⟩ => ⟨a, b ▸ Below.refl _ _⟩

set_option maxRecDepth 100000 in
theorem mul64_any (a b : Nat) (ha : a < 18446744073709551616) (hb : b < 18446744073709551616) (w : World) :
    Calls Try.prog 26 #[.int .u64 a, .int .u64 b] w fun e w' => e = .returned (.agg #[.int .u64 (a * b % 18446744073709551616 : Nat), .int .u64 (a * b / 18446744073709551616 : Nat)]) ∧ Below w.heap.size w w' := by
  have M := Shut.mk (fun (W : World) => Try.bits_Mul64 a b ha hb W)
  have B0 := Shut.mk ((Below.refl w.heap.size w).alloc (Nat.le_refl _) (.cells #[.int .u64 0, .int .u64 0] 54))
  have R0 := RowAt.arr w 54 [0, 0] (by decide)
  have c0 := R0.u64 (k := 0) (by decide)
  have c1 := R0.u64 (k := 1) (by decide)
  have f0 := R0.frozen 0
  have f1 := R0.frozen 1
  simp at c0 c1 f0 f1
  generalize a * b % 18446744073709551616 = l at *
  generalize a * b / 18446744073709551616 = h at *
  clear R0 ha hb
  go_enter Try.func26, Try.ntmps26
  go_wp2_with fail
  refine (M.out _).mono ?_
  rintro e w1 ⟨rfl, rfl⟩
  go_wp2_with fail
  refine bodyPost_ret (v := .agg #[.int .u64 l, .int .u64 h]) (by simp [results, Try.results26, go_sem]) rfl ⟨rfl, ?_⟩
  exact (Below.refl _ _).alloc (Nat.le_refl _) _

set_option maxRecDepth 100000 in
theorem div128_any (a0 a1 y : Nat) (h0 : 0 < y) (hy : y < 18446744073709551616) (ha : a0 < 18446744073709551616) (hb : a1 < 18446744073709551616) (w : World) :
    Calls Try.prog 29 #[.agg #[.int .u64 a0, .int .u64 a1], .int .u64 y] w fun e w' => e = .returned (.tuple #[.agg #[.int .u64 ((a1 % y * 18446744073709551616 + a0) / y : Nat), .int .u64 (a1 / y : Nat)], .int .u64 ((a1 % y * 18446744073709551616 + a0) % y : Nat), .bool false]) ∧ Below w.heap.size w w' := by
  have D1 := Shut.mk (fun (W : World) => div64_low a1 y h0 hb W)
  have D2 := Shut.mk (fun (W : World) => div64_any (a1 % y) a0 y (Nat.mod_lt _ h0) ha hy W)
  have hy2 : ((y : Int) == 0) = false := by rw [beq_eq_false_iff_ne]; omega
  have B0 := Shut.mk (((Below.refl w.heap.size w).alloc (Nat.le_refl _) (.cells #[.int .u64 a0, .int .u64 a1] 54)).alloc (by simp) (.cells #[.int .u64 0, .int .u64 0] 54))
  have RX' := (RowAt.arr w 54 [a0, a1] (show 2 < 1000000 by decide)).alloc (.cells #[.int .u64 0, .int .u64 0] 54)
  have RZ' := RowAt.arr (w.alloc (.cells #[.int .u64 a0, .int .u64 a1] 54)) 54 [0, 0] (by decide)
  rw [World.size_alloc] at RZ'
  have RX : Shut (RowAt ((w.alloc (.cells #[.int .u64 a0, .int .u64 a1] 54)).alloc (.cells #[.int .u64 0, .int .u64 0] 54)) 54 w.heap.size 2 (U [a0, a1])) := ⟨RX'⟩
  have RZ : Shut (RowAt ((w.alloc (.cells #[.int .u64 a0, .int .u64 a1] 54)).alloc (.cells #[.int .u64 0, .int .u64 0] 54)) 54 (w.heap.size + 1) 2 (U [0, 0])) := ⟨RZ'⟩
  obtain ⟨q1, hq1⟩ : ∃ q, q = a1 / y := ⟨_, rfl⟩
  obtain ⟨r1, hr1⟩ : ∃ q, q = a1 % y := ⟨_, rfl⟩
  rw [← hq1, ← hr1] at D1 ⊢
  rw [← hr1] at D2
  obtain ⟨q0, hq0⟩ : ∃ q, q = (r1 * 18446744073709551616 + a0) / y := ⟨_, rfl⟩
  obtain ⟨r0, hr0⟩ : ∃ q, q = (r1 * 18446744073709551616 + a0) % y := ⟨_, rfl⟩
  rw [← hq0, ← hr0] at D2 ⊢
  clear h0 hy ha hb RX' RZ' hq1 hr1 hq0 hr0
  go_enter Try.func29, Try.ntmps29
  go_wp2_with fail
  refine (D1.out _).mono ?_
  rintro e w1 ⟨rfl, hb⟩
  have RX1 := Shut.mk (RX.out.below hb)
  have RZ1 := Shut.mk (RZ.out.below hb)
  have B1 := Shut.mk (B0.out.trans (hb.mono (by simp only [World.size_alloc]; omega)))
  have x0 := RX1.out.u64 (k := 0) (show 0 < 2 by decide)
  have x1 := RX1.out.u64 (k := 1) (show 1 < 2 by decide)
  have z0 := RZ1.out.u64 (k := 0) (by decide)
  have z1 := RZ1.out.u64 (k := 1) (by decide)
  have f0 := RZ1.out.frozen 0
  have f1 := RZ1.out.frozen 1
  simp at x0 x1 z0 z1
  clear hb
  have RZ2 : Shut (RowAt (w1.setCell ⟨w.heap.size + 1, 1, none⟩ (.int .u64 (q1 : Nat))) 54 (w.heap.size + 1) 2 (U [0, q1])) := ⟨by
    have := RZ1.out.set_ 1 (.int .u64 (q1 : Nat))
    rwa [U_set] at this⟩
  have B2 := Shut.mk (B1.out.setCell (p := ⟨w.heap.size + 1, 1, none⟩) (by simp) (.int .u64 (q1 : Nat)))
  go_wp2_with fail
  refine (D2.out _).mono ?_
  rintro e w2 ⟨rfl, hb⟩
  have RZ3 := Shut.mk (RZ2.out.below hb)
  have B3 := Shut.mk (below3 B2.out hb)
  clear z0 z1 f0 f1 hb x0 x1
  have z0 := RZ3.out.u64 (k := 0) (show 0 < 2 by decide)
  have z1 := RZ3.out.u64 (k := 1) (show 1 < 2 by decide)
  have f0 := RZ3.out.frozen 0
  have f1 := RZ3.out.frozen 1
  simp at z0 z1
  go_wp2_with fail
  refine bodyPost_ret (v := .tuple #[.agg #[.int .u64 q0, .int .u64 q1], .int .u64 r0, .bool false]) (by simp [results, Try.results29, go_sem, z0, z1]) rfl ⟨rfl, ?_⟩
  exact ((B3.out.setCell (p := ⟨w.heap.size + 1, 0, none⟩) (by simp) _).setCell (p := ⟨w.heap.size + 1, 0, none⟩) (by simp) _).setCell (p := ⟨w.heap.size + 1, 1, none⟩) (by simp) _

set_option maxRecDepth 100000 in
set_option maxHeartbeats 2000000 in
theorem works_any (w : World) : Calls Try.prog 12 #[] w fun e w' => e = .returned (.bool true) ∧ Below w.heap.size w w' := by
  have C1 : Shut (∀ W : World, Calls Try.prog 26 #[.int .u64 9223372036854775808, .int .u64 6] W fun e w' => e = .returned (.agg #[.int .u64 0, .int .u64 3]) ∧ Below W.heap.size W w') := ⟨fun W => mul64_any 9223372036854775808 6 (by decide) (by decide) W⟩
  have C2 : Shut (∀ W : World, Calls Try.prog 29 #[.agg #[.int .u64 0, .int .u64 3], .int .u64 5] W fun e w' => e = .returned (.tuple #[.agg #[.int .u64 11068046444225730969, .int .u64 0], .int .u64 3, .bool false]) ∧ Below W.heap.size W w') := ⟨fun W => div128_any 0 3 5 (by decide) (by decide) (by decide) (by decide) W⟩
  have C3 : Shut (∀ W : World, Calls Try.prog 15 #[.agg #[.int .u64 0, .int .u64 0, .int .u64 0, .int .u64 0], .agg #[.int .u64 1, .int .u64 0, .int .u64 0, .int .u64 0]] W fun e w' => e = .returned (.tuple #[.agg #[.int .u64 18446744073709551615, .int .u64 18446744073709551615, .int .u64 18446744073709551615, .int .u64 18446744073709551615], .bool true]) ∧ Below W.heap.size W w') :=
    ⟨fun W => sub256_any 0 0 0 0 1 0 0 0 [18446744073709551615, 18446744073709551615, 18446744073709551615, 18446744073709551615] true (by decide) (by decide) W (by decide) (by decide)⟩
  have C4 : Shut (∀ W : World, Calls Try.prog 8 #[.agg #[.int .u64 3, .int .u64 0, .int .u64 0, .int .u64 0], .int .u64 255] W fun e w' => e = .returned (.tuple #[.agg #[.int .u64 0, .int .u64 0, .int .u64 0, .int .u64 9223372036854775808], .bool true]) ∧ Below W.heap.size W w') := ⟨fun W => by
    have := shl_use 3 0 0 0 255 (by decide) W (by decide)
    rw [show shlOf (movedTo [3, 0, 0, 0] ((255 / 64 : Nat) : Int) 4) (255 % 64) = [0, 0, 0, 9223372036854775808] by decide, show shlOv [3, 0, 0, 0] 255 = true by decide] at this
    exact this⟩
  have E1 : ∀ W : World, (Op.equalIn 10000 54 (.agg #[.int .u64 0, .int .u64 3]) (.agg #[.int .u64 0, .int .u64 3])).run Try.prog W = .ok true W := fun W => run_eq_arr 54 2 Try.underlying54 [0, 3] [0, 3] rfl rfl 9998 W
  have E2 : ∀ W : World, (Op.equalIn 10000 54 (.agg #[.int .u64 11068046444225730969, .int .u64 0]) (.agg #[.int .u64 11068046444225730969, .int .u64 0])).run Try.prog W = .ok true W := fun W => run_eq_arr 54 2 Try.underlying54 [11068046444225730969, 0] [11068046444225730969, 0] rfl rfl 9998 W
  have E3 : ∀ W : World, (Op.equalIn 10000 24 (.agg #[.int .u64 18446744073709551615, .int .u64 18446744073709551615, .int .u64 18446744073709551615, .int .u64 18446744073709551615]) (.agg #[.int .u64 18446744073709551615, .int .u64 18446744073709551615, .int .u64 18446744073709551615, .int .u64 18446744073709551615])).run Try.prog W = .ok true W := fun W => run_eq_arr 24 4 Try.underlying24 [18446744073709551615, 18446744073709551615, 18446744073709551615, 18446744073709551615] [18446744073709551615, 18446744073709551615, 18446744073709551615, 18446744073709551615] rfl rfl 9998 W
  have E4 : ∀ W : World, (Op.equalIn 10000 24 (.agg #[.int .u64 0, .int .u64 0, .int .u64 0, .int .u64 9223372036854775808]) (.agg #[.int .u64 0, .int .u64 0, .int .u64 0, .int .u64 9223372036854775808])).run Try.prog W = .ok true W := fun W => run_eq_arr 24 4 Try.underlying24 [0, 0, 0, 9223372036854775808] [0, 0, 0, 9223372036854775808] rfl rfl 9998 W
  go_enter Try.func12, Try.ntmps12
  go_wp2_with fail
  refine (C1.out _).mono ?_
  rintro e w1 ⟨rfl, hb⟩
  have B1 := Shut.mk (hb.alloc hb.size (.cells #[.int .u64 0, .int .u64 3] 54))
  have RP : Shut (RowAt (w1.alloc (.cells #[.int .u64 0, .int .u64 3] 54)) 54 w1.heap.size 2 (U [0, 3])) := ⟨RowAt.arr w1 54 [0, 3] (by decide)⟩
  clear hb
  go_wp2_with fail
  refine (C2.out _).mono ?_
  rintro e w2 ⟨rfl, hb⟩
  have RP2 := Shut.mk ((RP.out.below hb).alloc (.cells #[.int .u64 11068046444225730969, .int .u64 0] 54))
  have RQ2 : Shut (RowAt (w2.alloc (.cells #[.int .u64 11068046444225730969, .int .u64 0] 54)) 54 w2.heap.size 2 (U [11068046444225730969, 0])) := ⟨RowAt.arr w2 54 [11068046444225730969, 0] (by decide)⟩
  have B2' := below3 B1.out hb
  have B2 := Shut.mk (B2'.alloc B2'.size (.cells #[.int .u64 11068046444225730969, .int .u64 0] 54))
  clear hb B2'
  go_wp2_with fail
  refine (C3.out _).mono ?_
  rintro e w3 ⟨rfl, hb⟩
  have RP3 := Shut.mk ((RP2.out.below hb).alloc (.cells #[.int .u64 18446744073709551615, .int .u64 18446744073709551615, .int .u64 18446744073709551615, .int .u64 18446744073709551615] 24))
  have RQ3 := Shut.mk ((RQ2.out.below hb).alloc (.cells #[.int .u64 18446744073709551615, .int .u64 18446744073709551615, .int .u64 18446744073709551615, .int .u64 18446744073709551615] 24))
  have RD3 : Shut (RowAt (w3.alloc (.cells #[.int .u64 18446744073709551615, .int .u64 18446744073709551615, .int .u64 18446744073709551615, .int .u64 18446744073709551615] 24)) 24 w3.heap.size 4 (U [18446744073709551615, 18446744073709551615, 18446744073709551615, 18446744073709551615])) := ⟨RowAt.arr w3 24 [18446744073709551615, 18446744073709551615, 18446744073709551615, 18446744073709551615] (by decide)⟩
  have B3' := below3 B2.out hb
  have B3 := Shut.mk (B3'.alloc B3'.size (.cells #[.int .u64 18446744073709551615, .int .u64 18446744073709551615, .int .u64 18446744073709551615, .int .u64 18446744073709551615] 24))
  clear hb B3'
  go_wp2_with fail
  refine (C4.out _).mono ?_
  rintro e w4 ⟨rfl, hb⟩
  have RP4 := Shut.mk ((RP3.out.below hb).alloc (.cells #[.int .u64 0, .int .u64 0, .int .u64 0, .int .u64 9223372036854775808] 24))
  have RQ4 := Shut.mk ((RQ3.out.below hb).alloc (.cells #[.int .u64 0, .int .u64 0, .int .u64 0, .int .u64 9223372036854775808] 24))
  have RD4 := Shut.mk ((RD3.out.below hb).alloc (.cells #[.int .u64 0, .int .u64 0, .int .u64 0, .int .u64 9223372036854775808] 24))
  have RH4 : Shut (RowAt (w4.alloc (.cells #[.int .u64 0, .int .u64 0, .int .u64 0, .int .u64 9223372036854775808] 24)) 24 w4.heap.size 4 (U [0, 0, 0, 9223372036854775808])) := ⟨RowAt.arr w4 24 [0, 0, 0, 9223372036854775808] (by decide)⟩
  have B4' := below3 B3.out hb
  have B4 := Shut.mk (B4'.alloc B4'.size (.cells #[.int .u64 0, .int .u64 0, .int .u64 0, .int .u64 9223372036854775808] 24))
  clear hb B4'
  have p0 := RP4.out.u64 (k := 0) (show 0 < 2 by decide)
  have p1 := RP4.out.u64 (k := 1) (show 1 < 2 by decide)
  have q0 := RQ4.out.u64 (k := 0) (show 0 < 2 by decide)
  have q1 := RQ4.out.u64 (k := 1) (show 1 < 2 by decide)
  obtain ⟨⟨d0, d1, d2, d3⟩, _⟩ := RD4.out.four
  obtain ⟨⟨h0, h1, h2, h3⟩, _⟩ := RH4.out.four
  simp at p0 p1 q0 q1 d0 d1 d2 d3 h0 h1 h2 h3
  clear h0 h1 h2 h3
  go_wp2_with fail
  go_ret
  exact ⟨rfl, B4.out⟩

end Go.Proofs.Ytdgklodhgbbdjaa
