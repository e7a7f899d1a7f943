/- The walks of the laws Log2Rises and Log2Powers. -/
import Derived.Test.YtccnjmeakbnngaaLog2Q
namespace Go.Proofs.Ytccnjmeakbnngaa
set_option linter.unusedVariables false
open Go.RowKit Go.Shelf

theorem nat_of_u8 {a : Int} (h : (Lit.int .u8 a).wf = true) : ∃ x : Nat, a = (x : Int) ∧ x < 256 := by
  have h1 : IntKind.u8.min = 0 := by decide +kernel
  have h2 : IntKind.u8.max = 255 := by decide +kernel
  simp [Lit.wf, h1, h2] at h
  exact ⟨a.toNat, by omega, by omega⟩

set_option maxRecDepth 100000 in
set_option maxHeartbeats 1000000 in
theorem rises_walk (a b k x y p : Nat) (lx ly hx hy lq hq : Nat) (w : World)
    (e1 : min (a : Int) (b : Int) = (x : Int)) (e2 : max (a : Int) (b : Int) = (y : Int))
    (e4 : IntKind.u64.wrap (2 ^ (k % 64)) = (p : Int)) (hp1 : 1 ≤ p) (hp2 : p < 18446744073709551616)
    (clx : ∀ w, Calls Try.prog 8 #[.int .u64 x] w fun e w' => e = .returned (.int .u64 lx) ∧ Below w.heap.size w w')
    (cly : ∀ w, Calls Try.prog 8 #[.int .u64 y] w fun e w' => e = .returned (.int .u64 ly) ∧ Below w.heap.size w w')
    (chx : ∀ w, Calls Try.prog 10 #[.int .u64 x] w fun e w' => e = .returned (.int .u64 hx) ∧ Below w.heap.size w w')
    (chy : ∀ w, Calls Try.prog 10 #[.int .u64 y] w fun e w' => e = .returned (.int .u64 hy) ∧ Below w.heap.size w w')
    (clp : ∀ w, Calls Try.prog 8 #[.int .u64 p] w fun e w' => e = .returned (.int .u64 ((k : Int) % 64 * 16777216)) ∧ Below w.heap.size w w')
    (chp : ∀ w, Calls Try.prog 10 #[.int .u64 p] w fun e w' => e = .returned (.int .u64 ((k : Int) % 64 * 16777216 + 1)) ∧ Below w.heap.size w w')
    (clq : ∀ w, Calls Try.prog 8 #[.int .u64 ((p : Int) - 1)] w fun e w' => e = .returned (.int .u64 lq) ∧ Below w.heap.size w w')
    (chq : ∀ w, Calls Try.prog 10 #[.int .u64 ((p : Int) - 1)] w fun e w' => e = .returned (.int .u64 hq) ∧ Below w.heap.size w w')
    (f1 : lx ≤ ly) (f2 : hx ≤ hy) (f3 : (hq : Int) ≤ (k : Int) % 64 * 16777216 + 1) (f4 : (k : Int) % 64 < 2 ∨ (lq : Int) < (k : Int) % 64 * 16777216) :
    Calls Try.prog 5 #[.int .u64 a, .int .u64 b, .int .u8 k] w fun e w' => e = .returned (.bool true) ∧ Below w.heap.size w w' := by
  have CLX := Lib.hid clx
  have CLY := Lib.hid cly
  have CHX := Lib.hid chx
  have CHY := Lib.hid chy
  have CLP := Lib.hid clp
  have CHP := Lib.hid chp
  have CLQ := Lib.hid clq
  have CHQ := Lib.hid chq
  have F4 := Lib.hid f4
  have n1 : ((k : Int) % 64 * 16777216 != (k : Int) % 64 * 16777216) = false := by simp
  have n2 : ((k : Int) % 64 * 16777216 + 1 != (k : Int) % 64 * 16777216 + 1) = false := by simp
  clear clx cly chx chy clp chp clq chq f4
  by_cases h2 : (k : Int) % 64 < 2
  · go_enter Try.func5, Try.ntmps5
    go_wp2_with fail
    refine (works_any _).mono ?_
    rintro e w1 ⟨rfl, hb1⟩
    go_wp2_with fail
    refine (CLX.out _).mono ?_
    rintro e w2 ⟨rfl, hb2⟩
    go_wp2_with fail
    refine (CLY.out _).mono ?_
    rintro e w3 ⟨rfl, hb3⟩
    go_wp2_with fail
    refine (CHX.out _).mono ?_
    rintro e w4 ⟨rfl, hb4⟩
    go_wp2_with fail
    refine (CHY.out _).mono ?_
    rintro e w5 ⟨rfl, hb5⟩
    go_wp2_with fail
    rw [e4]
    clear e4
    refine (CLP.out _).mono ?_
    rintro e w6 ⟨rfl, hb6⟩
    go_wp2_with fail
    refine (CHP.out _).mono ?_
    rintro e w7 ⟨rfl, hb7⟩
    go_wp2_with fail
    refine (CHQ.out _).mono ?_
    rintro e w8 ⟨rfl, hb8⟩
    go_wp2_with fail
    refine (CHP.out _).mono ?_
    rintro e w9 ⟨rfl, hb9⟩
    go_wp2_with fail
    go_ret
    exact ⟨rfl, (below3 (below3 (below3 (below3 (below3 (below3 (below3 (below3 hb1 hb2) hb3) hb4) hb5) hb6) hb7) hb8) hb9)⟩
  · have h4 := F4.out.resolve_left h2
    clear F4
    go_enter Try.func5, Try.ntmps5
    go_wp2_with fail
    refine (works_any _).mono ?_
    rintro e w1 ⟨rfl, hb1⟩
    go_wp2_with fail
    refine (CLX.out _).mono ?_
    rintro e w2 ⟨rfl, hb2⟩
    go_wp2_with fail
    refine (CLY.out _).mono ?_
    rintro e w3 ⟨rfl, hb3⟩
    go_wp2_with fail
    refine (CHX.out _).mono ?_
    rintro e w4 ⟨rfl, hb4⟩
    go_wp2_with fail
    refine (CHY.out _).mono ?_
    rintro e w5 ⟨rfl, hb5⟩
    go_wp2_with fail
    rw [e4]
    clear e4
    refine (CLP.out _).mono ?_
    rintro e w6 ⟨rfl, hb6⟩
    go_wp2_with fail
    refine (CHP.out _).mono ?_
    rintro e w7 ⟨rfl, hb7⟩
    go_wp2_with fail
    refine (CHQ.out _).mono ?_
    rintro e w8 ⟨rfl, hb8⟩
    go_wp2_with fail
    refine (CHP.out _).mono ?_
    rintro e w9 ⟨rfl, hb9⟩
    go_wp2_with fail
    refine (CLQ.out _).mono ?_
    rintro e w10 ⟨rfl, hb10⟩
    go_wp2_with fail
    refine (CLP.out _).mono ?_
    rintro e w11 ⟨rfl, hb11⟩
    go_wp2_with fail
    go_ret
    exact ⟨rfl, (below3 (below3 (below3 (below3 (below3 (below3 (below3 (below3 (below3 (below3 hb1 hb2) hb3) hb4) hb5) hb6) hb7) hb8) hb9) hb10) hb11)⟩

theorem Log2Rises_walk (a0 a1 a2 : Int) (w : World) (w0 : (Lit.int .u64 a0).wf = true) (w1 : (Lit.int .u64 a1).wf = true) (w2 : (Lit.int .u8 a2).wf = true) :
    Calls Try.prog 5 #[.int .u64 a0, .int .u64 a1, .int .u8 a2] w fun e w' => e = .returned (.bool true) ∧ Below w.heap.size w w' := by
  obtain ⟨a, rfl, ha⟩ := nat_of_u64 w0
  obtain ⟨b, rfl, hb⟩ := nat_of_u64 w1
  obtain ⟨k, rfl, hk⟩ := nat_of_u8 w2
  clear w0 w1 w2
  have hn : k % 64 < 64 := Nat.mod_lt _ (by omega)
  have hp1 : 1 ≤ 2 ^ (k % 64) := Nat.two_pow_pos _
  have hp2 : 2 ^ (k % 64) < 18446744073709551616 := by
    have : 2 ^ (k % 64) < 2 ^ 64 := Nat.pow_lt_pow_right (by omega) hn
    exact this
  have h1 := L2.lo_two_pow (k % 64) hn
  have h2 := L2.hi_two_pow (k % 64) hn
  have h3 := L2.hi_rises (2 ^ (k % 64) - 1) (2 ^ (k % 64)) (Nat.sub_le _ _) hp2
  have h4 : k % 64 < 2 ∨ L2.lo (2 ^ (k % 64) - 1) < L2.lo (2 ^ (k % 64)) := by
    rcases Nat.lt_or_ge (k % 64) 2 with h | h
    · exact .inl h
    · exact .inr (L2.lo_pred _ hn h)
  rw [h2] at h3
  rw [h1] at h4
  have e4 : IntKind.u64.wrap (2 ^ (k % 64)) = ((2 ^ (k % 64) : Nat) : Int) := by
    rw [IntKind.wrap_u64, show (2 : Int) ^ (k % 64) = ((2 ^ (k % 64) : Nat) : Int) from by push_cast; rfl]
    generalize 2 ^ (k % 64) = p at *
    omega
  generalize 2 ^ (k % 64) = p at *
  refine rises_walk a b k (min a b) (max a b) p _ _ _ _ (L2.lo (p - 1)) (L2.hi (p - 1)) w (by omega) (by omega) e4 hp1 hp2
    (fun w => lo_any _ w (by omega)) (fun w => lo_any _ w (by omega)) (fun w => hi_any _ w (by omega)) (fun w => hi_any _ w (by omega)) ?_ ?_ ?_ ?_
    (L2.lo_rises _ _ (by omega) (by omega)) (L2.hi_rises _ _ (by omega) (by omega)) (by omega) (by omega)
  · intro w
    refine (lo_any p w hp2).mono fun e w' ⟨he, hb⟩ => ⟨he.trans (ret_u (by rw [h1]; omega)), hb⟩
  · intro w
    refine (hi_any p w hp2).mono fun e w' ⟨he, hb⟩ => ⟨he.trans (ret_u (by rw [h2]; omega)), hb⟩
  · intro w
    rw [show (p : Int) - 1 = ((p - 1 : Nat) : Int) from by omega]
    exact lo_any (p - 1) w (by omega)
  · intro w
    rw [show (p : Int) - 1 = ((p - 1 : Nat) : Int) from by omega]
    exact hi_any (p - 1) w (by omega)

end Go.Proofs.Ytccnjmeakbnngaa
