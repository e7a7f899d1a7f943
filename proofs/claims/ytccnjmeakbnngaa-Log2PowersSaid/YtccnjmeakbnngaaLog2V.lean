/- The walk of the law Log2Powers. -/
import Derived.Test.YtccnjmeakbnngaaLog2U
namespace Go.Proofs.Ytccnjmeakbnngaa
set_option linter.unusedVariables false
open Go.RowKit Go.Shelf

/-- What lies in the loop: a power of the base. -/
structure Pow (x t p : Nat) : Prop where
  eq : p = x ^ t

theorem Pow.next {x t p q : Nat} (h : Pow x t p) (hx : 2 ≤ x) (hq : q = 18446744073709551615 / x) (hp : p ≤ q) : Pow x (t + 1) (p * x) ∧ p * x < 18446744073709551616 := by
  refine ⟨⟨by rw [h.eq, Nat.pow_succ]⟩, ?_⟩
  have := Nat.mul_le_mul_right x hp
  have h2 : q * x ≤ 18446744073709551615 := by rw [hq]; exact Nat.div_mul_le_self _ _
  omega

theorem times_facts (x t p : Nat) (h0 : x ≠ 0) (ht1 : 1 ≤ t) (ht2 : t ≤ 64) (hx : x < 18446744073709551616) (hp : p < 18446744073709551616) (e : p = x ^ t) :
    IntKind.u64.wrap ((t : Int) * (L2.lo x : Int)) = ((t * L2.lo x : Nat) : Int) ∧ IntKind.u64.wrap ((t : Int) * (L2.hi x : Int)) = ((t * L2.hi x : Nat) : Int) ∧
      t * L2.lo x < L2.hi p ∧ L2.lo p < t * L2.hi x := by
  have h1 := L2.lo_lt x hx
  have h2 := L2.hi_le x hx
  have h3 := L2.times_lt x t h0 hx (by omega)
  have h4 := L2.lt_times x t h0 (by omega) hx (by omega)
  rw [← e] at h3 h4
  have m1 : t * L2.lo x ≤ 64 * 1073741824 := Nat.mul_le_mul ht2 (Nat.le_of_lt h1)
  have m2 : t * L2.hi x ≤ 64 * 1073741824 := Nat.mul_le_mul ht2 h2
  refine ⟨?_, ?_, h3, h4⟩
  · rw [IntKind.wrap_u64, show (t : Int) * (L2.lo x : Int) = ((t * L2.lo x : Nat) : Int) from by push_cast; rfl]; omega
  · rw [IntKind.wrap_u64, show (t : Int) * (L2.hi x : Int) = ((t * L2.hi x : Nat) : Int) from by push_cast; rfl]; omega

set_option maxRecDepth 100000 in
set_option maxHeartbeats 1000000 in
theorem powers_walk (a n x q : Nat) (w : World) (hx1 : 2 ≤ x) (hx2 : x < 18446744073709551616) (e1 : 2 + (a : Int) % 1000000 = (x : Int)) (e2 : (18446744073709551615 : Int) / (x : Int) = (q : Int))
    (hq : Shut (q = 18446744073709551615 / x)) :
    Calls Try.prog 6 #[.int .u64 a, .int .u8 n] w fun e w' => e = .returned (.bool true) ∧ Below w.heap.size w w' := by
  go_enter Try.func6, Try.ntmps6
  go_wp2_with fail
  refine (works_any _).mono ?_
  rintro e w1 ⟨rfl, hb1⟩
  go_wp2_with fail
  go_loop [6, 7, 8] (fun p t i => ∃ tt pp : Nat, 1 ≤ tt ∧ tt ≤ 64 ∧ p = .int .u64 pp ∧ t = .int .u64 tt ∧ i = .int .i64 ((tt : Int) - 1) ∧ Pow x tt pp ∧ pp < 18446744073709551616) (fun _ _ i => 64 - (intOf i).toNat)
  case atStart => exact ⟨1, x, by omega, by omega, rfl, rfl, rfl, ⟨by simp⟩, hx2⟩
  case round =>
    obtain ⟨t, p, ht1, ht2, rfl, rfl, rfl, hP, hp⟩ := hrel
    have HP := Shut.mk hP
    clear hP
    have P1 : Shut (IntKind.u64.wrap ((p : Int) * (x : Int)) = ((p * x % 18446744073709551616 : Nat) : Int)) := ⟨by rw [IntKind.wrap_u64, show (p : Int) * (x : Int) = ((p * x : Nat) : Int) from by push_cast; rfl]; omega⟩
    have P2 := Shut.mk (times_facts x t p (by omega) ht1 ht2 hx2 hp HP.out.eq)
    have C1 := Shut.mk (fun w => lo_any x w hx2)
    have C2 := Shut.mk (fun w => hi_any p w hp)
    have C3 := Shut.mk (fun w => lo_any p w hp)
    have C4 := Shut.mk (fun w => hi_any x w hx2)
    go_wp2_with fail
    · have hpq : p ≤ q := by assumption
      obtain ⟨hn1, hn2⟩ := HP.out.next hx1 hq.out hpq
      rw [P1.out, Nat.mod_eq_of_lt hn2]
      have htn : (t : Int) - 1 < (n : Int) % 64 := by assumption
      go_round
      case rel => exact ⟨t + 1, p * x, by omega, by omega, rfl, by go_num, by go_num, hn1, hn2⟩
      case measure => simp [intOf]; omega
    all_goals
      obtain ⟨m1, m2, f1, f2⟩ := P2.out
      have F1 := Shut.mk f1
      have F2 := Shut.mk f2
      have M1 := Lib.hid m1
      have M2 := Lib.hid m2
      clear m1 m2 f1 f2 P2 P1 HP
      generalize L2.lo x = lx at *
      generalize L2.hi x = hx at *
      generalize L2.lo p = lp at *
      generalize L2.hi p = hp' at *
      generalize t * lx = A at *
      generalize t * hx = B at *
      have f1 := F1.out
      have f2 := F2.out
      have m1 := M1.out
      have m2 := M2.out
      refine (C1.out _).mono ?_
      rintro e w2 ⟨rfl, hb2⟩
      go_wp2_with fail
      refine (C2.out _).mono ?_
      rintro e w3 ⟨rfl, hb3⟩
      go_wp2_with fail
      refine (C3.out _).mono ?_
      rintro e w4 ⟨rfl, hb4⟩
      go_wp2_with fail
      refine (C4.out _).mono ?_
      rintro e w5 ⟨rfl, hb5⟩
      go_wp2_with fail
      go_ret
      exact ⟨rfl, below3 (below3 (below3 (below3 hb1 hb2) hb3) hb4) hb5⟩

theorem Log2Powers_walk (a0 a1 : Int) (w : World) (w0 : (Lit.int .u64 a0).wf = true) (w1 : (Lit.int .u8 a1).wf = true) :
    Calls Try.prog 6 #[.int .u64 a0, .int .u8 a1] w fun e w' => e = .returned (.bool true) ∧ Below w.heap.size w w' := by
  obtain ⟨a, rfl, ha⟩ := nat_of_u64 w0
  obtain ⟨n, rfl, hn⟩ := nat_of_u8 w1
  exact powers_walk a n (2 + a % 1000000) (18446744073709551615 / (2 + a % 1000000)) w (by omega) (by omega) (by omega) (Int.natCast_ediv 18446744073709551615 _).symm ⟨rfl⟩

end Go.Proofs.Ytccnjmeakbnngaa
