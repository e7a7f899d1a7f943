/- The walk of the law Log2Bounds. -/
import Derived.Test.YtccnjmeakbnngaaLog2T
import Derived.Test.YtccnjmeakbnngaaLog2N
namespace Go.Proofs.Ytccnjmeakbnngaa
set_option linter.unusedVariables false
open Go.RowKit Go.Shelf

/-- The two numbers that the law makes of its arguments, and their product. -/
theorem pair_of (a b : Nat) (ha : a < 18446744073709551616) (hb : b < 18446744073709551616) :
    ∃ x q y : Nat, max 1 (a : Int) = (x : Int) ∧ (18446744073709551615 : Int) / (x : Int) = (q : Int) ∧ max 1 ((b : Int) % (q : Int)) = (y : Int) ∧
      1 ≤ x ∧ x < 18446744073709551616 ∧ 1 ≤ q ∧ 1 ≤ y ∧ y < 18446744073709551616 ∧ x * y < 18446744073709551616 := by
  have hx : 1 ≤ max 1 a ∧ max 1 a < 18446744073709551616 := by omega
  generalize hxe : max 1 a = x at *
  have hq : 1 ≤ 18446744073709551615 / x := by
    rw [Nat.le_div_iff_mul_le (by omega)]; omega
  have hqx : x * (18446744073709551615 / x) ≤ 18446744073709551615 := Nat.mul_div_le _ _
  generalize hqe : 18446744073709551615 / x = q at *
  have hbq : b % q < q := Nat.mod_lt _ (by omega)
  have hy : 1 ≤ max 1 (b % q) ∧ max 1 (b % q) ≤ q := by omega
  have hqm : q ≤ x * q := Nat.le_mul_of_pos_left q (by omega)
  refine ⟨x, q, max 1 (b % q), by omega, by rw [← hqe]; exact (Int.natCast_ediv 18446744073709551615 x).symm, by omega, by omega, by omega, hq, hy.1, by omega, ?_⟩
  have := Nat.mul_le_mul_left x hy.2
  omega

/-- A fact shut away: no tactic looks into it. -/
structure Shut (p : Prop) : Prop where
  out : p

theorem below3 {w a b : World} (h1 : Below w.heap.size w a) (h2 : Below a.heap.size a b) : Below w.heap.size w b := h1.trans (h2.mono h1.size)

set_option maxRecDepth 100000 in
set_option maxHeartbeats 1000000 in
theorem bounds_walk (a b x q y z l h lx ly hx hy l2 h2 : Nat) (w : World) (ha : a < 18446744073709551616) (hb : b < 18446744073709551616)
    (e1 : max 1 (a : Int) = (x : Int)) (e2 : (18446744073709551615 : Int) / (x : Int) = (q : Int)) (e3 : max 1 ((b : Int) % (q : Int)) = (y : Int))
    (e4 : IntKind.u64.wrap ((x : Int) * (y : Int)) = (z : Int)) (e5 : x < 9223372036854775808 → IntKind.u64.wrap (2 * (x : Int)) = ((2 * x : Nat) : Int))
    (hx1 : 1 ≤ x) (hx2 : x < 18446744073709551616) (hq : 1 ≤ q) (hy1 : 1 ≤ y) (hy2 : y < 18446744073709551616)
    (cl : ∀ w, Calls Try.prog 8 #[.int .u64 z] w fun e w' => e = .returned (.int .u64 l) ∧ Below w.heap.size w w')
    (ch : ∀ w, Calls Try.prog 10 #[.int .u64 z] w fun e w' => e = .returned (.int .u64 h) ∧ Below w.heap.size w w')
    (clx : ∀ w, Calls Try.prog 8 #[.int .u64 x] w fun e w' => e = .returned (.int .u64 lx) ∧ Below w.heap.size w w')
    (cly : ∀ w, Calls Try.prog 8 #[.int .u64 y] w fun e w' => e = .returned (.int .u64 ly) ∧ Below w.heap.size w w')
    (chx : ∀ w, Calls Try.prog 10 #[.int .u64 x] w fun e w' => e = .returned (.int .u64 hx) ∧ Below w.heap.size w w')
    (chy : ∀ w, Calls Try.prog 10 #[.int .u64 y] w fun e w' => e = .returned (.int .u64 hy) ∧ Below w.heap.size w w')
    (cl2 : x < 9223372036854775808 → ∀ w, Calls Try.prog 8 #[.int .u64 (2 * x : Nat)] w fun e w' => e = .returned (.int .u64 (lx + 16777216 : Nat)) ∧ Below w.heap.size w w')
    (ch2 : x < 9223372036854775808 → ∀ w, Calls Try.prog 10 #[.int .u64 (2 * x : Nat)] w fun e w' => e = .returned (.int .u64 (hx + 16777216 : Nat)) ∧ Below w.heap.size w w')
    (b1 : lx < 1073741824) (b2 : ly < 1073741824) (b3 : hx ≤ 1073741824) (b4 : hy ≤ 1073741824) (b5 : l < 1073741824)
    (f1 : lx + ly < h) (f2 : l < hx + hy) (f3 : h = l + 1 ∨ h = l + 2) :
    Calls Try.prog 4 #[.int .u64 a, .int .u64 b] w fun e w' => e = .returned (.bool true) ∧ Below w.heap.size w w' := by
  have CL := Lib.hid cl
  have CH := Lib.hid ch
  have CLX := Lib.hid clx
  have CLY := Lib.hid cly
  have CHX := Lib.hid chx
  have CHY := Lib.hid chy
  have CL2 := Lib.hid cl2
  have CH2 := Lib.hid ch2
  clear cl ch clx cly chx chy cl2 ch2
  have hq0 : ¬ ((q : Int) = 0) := by omega
  have t1 : (((l : Int) + 1 - (l : Int)) != 1) = false := by rw [bne_eq_false_iff_eq]; omega
  have t2 : (((l : Int) + 2 - (l : Int)) != 1) = true := by rw [bne_iff_ne]; omega
  have t3 : (((l : Int) + 2 - (l : Int)) != 2) = false := by rw [bne_eq_false_iff_eq]; omega
  rcases f3 with rfl | rfl
  all_goals
    by_cases hlt : x < 9223372036854775808
    · have e5' := e5 hlt
      have c2 := CL2.out hlt
      have c3 := CH2.out hlt
      have CL3 := Lib.hid c2
      have CH3 := Lib.hid c3
      have HLT : Shut (∀ t : TypeId, binOp .lss t (.int .u64 (x : Int)) (.int .u64 9223372036854775808) = pure (.bool true)) := ⟨fun t => by rw [binOp_lss, decide_eq_true (by omega)]⟩
      have E5 := Lib.hid e5'
      clear e5 e5' hlt c2 c3 ha hb hx2 hy2 CL2 CH2
      go_enter Try.func4, Try.ntmps4
      go_wp2_with fail
      refine (works_any _).mono ?_
      rintro e w1 ⟨rfl, hb1⟩
      go_wp2_with fail
      rw [e2]
      clear e1 e2 e3 e4
      refine (CL.out _).mono ?_
      rintro e w2 ⟨rfl, hb2⟩
      go_wp2_with fail
      refine (CH.out _).mono ?_
      rintro e w3 ⟨rfl, hb3⟩
      go_wp2_with fail
      refine (CLX.out _).mono ?_
      rintro e w4 ⟨rfl, hb4⟩
      go_wp2_with fail
      refine (CLY.out _).mono ?_
      rintro e w5 ⟨rfl, hb5⟩
      go_wp2_with fail
      refine (CHX.out _).mono ?_
      rintro e w6 ⟨rfl, hb6⟩
      go_wp2_with fail
      refine (CHY.out _).mono ?_
      rintro e w7 ⟨rfl, hb7⟩
      have hlt := HLT.out
      go_wp2_with fail
      rw [E5.out]
      refine (CL3.out _).mono ?_
      rintro e w8 ⟨rfl, hb8⟩
      go_wp2_with fail
      refine (CLX.out _).mono ?_
      rintro e w9 ⟨rfl, hb9⟩
      go_wp2_with fail
      rw [E5.out]
      refine (CH3.out _).mono ?_
      rintro e w10 ⟨rfl, hb10⟩
      go_wp2_with fail
      refine (CHX.out _).mono ?_
      rintro e w11 ⟨rfl, hb11⟩
      go_wp2_with fail
      go_ret
      exact ⟨rfl, below3 (below3 (below3 (below3 (below3 (below3 (below3 (below3 (below3 (below3 hb1 hb2) hb3) hb4) hb5) hb6) hb7) hb8) hb9) hb10) hb11⟩
    · have HLT : Shut (∀ t : TypeId, binOp .lss t (.int .u64 (x : Int)) (.int .u64 9223372036854775808) = pure (.bool false)) := ⟨fun t => by rw [binOp_lss, decide_eq_false (by omega)]⟩
      clear e5 hlt ha hb hx2 hy2 CL2 CH2
      go_enter Try.func4, Try.ntmps4
      go_wp2_with fail
      refine (works_any _).mono ?_
      rintro e w1 ⟨rfl, hb1⟩
      go_wp2_with fail
      rw [e2]
      clear e1 e2 e3 e4
      refine (CL.out _).mono ?_
      rintro e w2 ⟨rfl, hb2⟩
      go_wp2_with fail
      refine (CH.out _).mono ?_
      rintro e w3 ⟨rfl, hb3⟩
      go_wp2_with fail
      refine (CLX.out _).mono ?_
      rintro e w4 ⟨rfl, hb4⟩
      go_wp2_with fail
      refine (CLY.out _).mono ?_
      rintro e w5 ⟨rfl, hb5⟩
      go_wp2_with fail
      refine (CHX.out _).mono ?_
      rintro e w6 ⟨rfl, hb6⟩
      go_wp2_with fail
      refine (CHY.out _).mono ?_
      rintro e w7 ⟨rfl, hb7⟩
      have hlt := HLT.out
      go_wp2_with fail
      go_ret
      exact ⟨rfl, below3 (below3 (below3 (below3 (below3 (below3 hb1 hb2) hb3) hb4) hb5) hb6) hb7⟩

theorem Log2Bounds_walk (a0 a1 : Int) (w : World) (w0 : (Lit.int .u64 a0).wf = true) (w1 : (Lit.int .u64 a1).wf = true) :
    Calls Try.prog 4 #[.int .u64 a0, .int .u64 a1] w fun e w' => e = .returned (.bool true) ∧ Below w.heap.size w w' := by
  obtain ⟨a, rfl, ha⟩ := nat_of_u64 w0
  obtain ⟨b, rfl, hb⟩ := nat_of_u64 w1
  clear w0 w1
  obtain ⟨x, q, y, e1, e2, e3, hx1, hx2, hq, hy1, hy2, hz⟩ := pair_of a b ha hb
  have hz0 : x * y ≠ 0 := by have := Nat.mul_pos hx1 hy1; omega
  have hlh := L2.lo_lt_hi (x * y) hz0 hz
  have hhl := L2.hi_le_lo (x * y) hz0 hz
  refine bounds_walk a b x q y (x * y) (L2.lo (x * y)) (L2.hi (x * y)) (L2.lo x) (L2.lo y) (L2.hi x) (L2.hi y) 0 0 w ha hb e1 e2 e3 ?_ ?_ hx1 hx2 hq hy1 hy2
    (fun w => lo_any _ w hz) (fun w => hi_any _ w hz) (fun w => lo_any _ w hx2) (fun w => lo_any _ w hy2) (fun w => hi_any _ w hx2) (fun w => hi_any _ w hy2) ?_ ?_
    (L2.lo_lt x hx2) (L2.lo_lt y hy2) (L2.hi_le x hx2) (L2.hi_le y hy2) (L2.lo_lt (x * y) hz)
    (L2.sum_lt x y (by omega) (by omega) hx2 hy2 hz) (L2.lt_sum x y (by omega) (by omega) hx2 hy2 hz) (by omega)
  · rw [IntKind.wrap_u64, show (x : Int) * (y : Int) = ((x * y : Nat) : Int) from by push_cast; rfl]
    omega
  · intro h
    rw [IntKind.wrap_u64]; omega
  · intro h w
    rw [← L2.lo_twice x (by omega) h]
    exact lo_any (2 * x) w (by omega)
  · intro h w
    rw [← L2.hi_twice x (by omega) h]
    exact hi_any (2 * x) w (by omega)

end Go.Proofs.Ytccnjmeakbnngaa
