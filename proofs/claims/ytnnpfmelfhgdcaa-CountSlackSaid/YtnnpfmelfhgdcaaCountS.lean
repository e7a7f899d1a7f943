/- Walk: CountSound. -/
import Derived.Test.YtnnpfmelfhgdcaaCountV
namespace Go.Proofs.Ytnnpfmelfhgdcaa
set_option linter.unusedVariables false
open Go.RowKit Go.Shelf

/-- What is enough bounds the powers. -/
theorem Ct.sound_of (M a b s n l h : Nat) (hM : M ≠ 0) (hab : b ≤ a) (hl : 2 ^ l ≤ a ^ M) (hh : b ^ M < 2 ^ h) (hp : s * M ≤ n * (l - h)) : b ^ n * 2 ^ s ≤ a ^ n := by
  rcases Nat.lt_or_ge l h with hlt | hge
  · rw [show l - h = 0 by omega, Nat.mul_zero] at hp
    have hs : s = 0 := by
      rcases Nat.eq_zero_or_pos s with e | e
      · exact e
      · have := Nat.mul_pos e (Nat.pos_of_ne_zero hM); omega
    rw [hs, Nat.pow_zero, Nat.mul_one]
    exact Nat.pow_le_pow_left hab n
  · have h1 : (b ^ n * 2 ^ s) ^ M ≤ (a ^ n) ^ M := by
      have e1 : (b ^ n * 2 ^ s) ^ M = (b ^ M) ^ n * 2 ^ (s * M) := by
        rw [Nat.mul_pow, ← Nat.pow_mul, ← Nat.pow_mul, ← Nat.pow_mul, Nat.mul_comm n M]
      have e2 : (a ^ n) ^ M = (a ^ M) ^ n := by rw [← Nat.pow_mul, ← Nat.pow_mul, Nat.mul_comm]
      have e3 : (2 ^ h) ^ n * 2 ^ (n * (l - h)) = (2 ^ l) ^ n := by
        rw [← Nat.pow_mul, ← Nat.pow_mul, ← Nat.pow_add, Nat.mul_comm h n, ← Nat.mul_add, Nat.mul_comm l n]
        congr 2
        omega
      rw [e1, e2]
      refine Nat.le_trans (Nat.mul_le_mul (Nat.pow_le_pow_left (Nat.le_of_lt hh) n) (Nat.pow_le_pow_right (by decide) hp)) ?_
      rw [e3]
      exact Nat.pow_le_pow_left hl n
    exact (Nat.pow_le_pow_iff_left hM).1 h1

theorem Ct.sound (a b s n : Nat) (ha : a < 18446744073709551616) (hp : Ct.passes a b s n = true) : b ^ n * 2 ^ s ≤ a ^ n * 2 ^ 0 := by
  obtain ⟨k, hk⟩ : ∃ k, k = 24 := ⟨_, rfl⟩
  unfold Ct.passes at hp
  rw [decide_eq_true_eq] at hp
  obtain ⟨h0, h1, h2⟩ := hp
  unfold Ct.gain at h2
  rw [if_neg (by omega)] at h2
  have hl := L2.lo_pow a (by omega) ha k hk
  have hh := L2.hi_pow b h0 (by omega) k hk
  have hM : 2 ^ k = 16777216 := by subst hk; rfl
  rw [Nat.pow_zero, Nat.mul_one]
  rw [← hM] at h2
  have hM0 : 2 ^ k ≠ 0 := by rw [hM]; decide
  clear hk hM
  generalize 2 ^ k = M at *
  exact Ct.sound_of M a b s n _ _ hM0 (by omega) hl hh h2

theorem nat_of_u16 {a : Int} (h : (Lit.int .u16 a).wf = true) : ∃ x : Nat, a = (x : Int) ∧ x < 65536 := by
  have h1 : IntKind.u16.min = 0 := by decide +kernel
  have h2 : IntKind.u16.max = 65535 := by decide +kernel
  simp [Lit.wf, h1, h2] at h
  exact ⟨a.toNat, by omega, by omega⟩

theorem power0 (x n : Nat) (w : World) (hx : x < 18446744073709551616) (hn : n ≤ 10000) :
    Calls Try.prog 18 #[.int .u64 x, .int .i64 n, .int .u64 0] w fun e w' => ∃ (v' : Value) (m' : Nat), e = .returned v' ∧ m' ≤ 100000 ∧ Num w' v' (x ^ n * 2 ^ 0) m' ∧ Below w.heap.size w w' :=
  power_any x n 0 w hx hn (by omega)

set_option maxRecDepth 100000 in
set_option maxHeartbeats 1000000 in
theorem sound_core (a b s0 n0 s k c m : Nat) (p : Bool) (w : World) (hs0 : (s0 : Int) % 257 = (s : Int)) (hk0 : (n0 : Int) % 641 = (k : Int)) (hn0 : n0 < 65536)
    (PB : Shut (∀ n w, n ≤ 10000 → Calls Try.prog 18 #[.int .u64 b, .int .i64 (n : Nat), .int .u64 s] w fun e w' => ∃ (v' : Value) (m' : Nat), e = .returned v' ∧ m' ≤ 100000 ∧ Num w' v' (b ^ n * 2 ^ s) m' ∧ Below w.heap.size w w'))
    (PA : Shut (∀ n w, n ≤ 10000 → Calls Try.prog 18 #[.int .u64 a, .int .i64 (n : Nat), .int .u64 0] w fun e w' => ∃ (v' : Value) (m' : Nat), e = .returned v' ∧ m' ≤ 100000 ∧ Num w' v' (a ^ n * 2 ^ 0) m' ∧ Below w.heap.size w w'))
    (CP : Shut (∀ w, Calls Try.prog 12 #[.int .u64 a, .int .u64 b, .int .u64 s, .int .i64 k] w fun e w' => e = .returned (.bool p) ∧ Below w.heap.size w w'))
    (CL : Shut (∀ w, Calls Try.prog 15 #[.int .u64 a, .int .u64 b, .int .u64 s] w fun e w' => e = .returned (.tuple #[.int .i64 m, .int .i64 c]) ∧ Below w.heap.size w w'))
    (M1 : Shut (p = true → k ≤ 10000 ∧ b ^ k * 2 ^ s ≤ a ^ k * 2 ^ 0)) (M2 : Shut (c = 0 → m ≤ 640 ∧ b ^ m * 2 ^ s ≤ a ^ m * 2 ^ 0)) :
    Calls Try.prog 5 #[.agg #[.int .u64 a, .int .u64 b], .int .u64 s0, .int .u16 n0] w fun e w' => e = .returned (.bool true) ∧ Below w.heap.size w w' := by
  have A1 := Shut.mk ((Below.refl w.heap.size w).alloc (Nat.le_refl _) (.cells #[.int .u64 (a : Int), .int .u64 (b : Int)] 23))
  have MM := Shut.mk most_any
  go_enter Try.func5, Try.ntmps5
  go_wp2_with fail
  refine (works17_any _).mono ?_
  rintro e w1 ⟨rfl, hb1⟩
  obtain ⟨c1, f1⟩ := bcell hb1
  have hz := hb1.size
  go_wp2_with fail
  go_quiet (fail)
  go_wp2_with fail
  refine (CP.out _).mono ?_
  rintro e w2 ⟨rfl, hb2⟩
  have B2 := Shut.mk (below3 (below_drewN (below3 A1.out hb1) nq) hb2)
  clear A1 hb1 hb2 c1 f1 hz
  have hc : c = 0 ∨ c ≠ 0 := by omega
  rcases p with _ | _
  · go_wp2_with fail
    refine (CL.out _).mono ?_
    rintro e w3 ⟨rfl, hb3⟩
    rcases hc with rfl | hc
    · have M2' := Shut.mk (M2.out rfl)
      have g1 : (m : Int) ≥ 0 := by omega
      have g2 : (m : Int) ≤ 640 := by have := M2'.out.1; omega
      go_wp2_with fail
      refine (PB.out m _ (by omega)).mono ?_
      rintro e w7 ⟨v7, m7, rfl, hm7, hN7, hb7⟩
      have HN7 := Shut.mk hN7
      clear hN7
      go_wp2_with fail
      refine (PA.out m _ (by omega)).mono ?_
      rintro e w8 ⟨v8, m8, rfl, hm8, hN8, hb8⟩
      have MM2 := Shut.mk (MM.out v7 v8 _ _ m7 m8 _ (HN7.out.below hb8) hN8 hm7 hm8)
      clear hN8
      go_wp2_with fail
      rw [decide_eq_true M2'.out.2] at MM2
      refine (MM2.out).mono ?_
      rintro e w9 ⟨rfl, hb9⟩
      go_wp2_with fail
      go_ret
      exact ⟨rfl, below3 (below3 (below3 (below3 B2.out hb3) hb7) hb8) hb9⟩
    · have e0 : ((c : Int) == 0) = false := by simp; omega
      have e0' : ((c : Int) != 0) = true := by simp; omega
      clear hc
      go_wp2_with fail
      go_ret
      exact ⟨rfl, below3 B2.out hb3⟩
  · have M1' := Shut.mk (M1.out rfl)
    go_wp2_with fail
    refine (PB.out _ _ M1'.out.1).mono ?_
    rintro e w3 ⟨v3, m3, rfl, hm3, hN3, hb3⟩
    have HN3 := Shut.mk hN3
    clear hN3
    go_wp2_with fail
    refine (PA.out _ _ M1'.out.1).mono ?_
    rintro e w4 ⟨v4, m4, rfl, hm4, hN4, hb4⟩
    have MM' := Shut.mk (MM.out v3 v4 _ _ m3 m4 _ (HN3.out.below hb4) hN4 hm3 hm4)
    clear hN4
    go_wp2_with fail
    rw [decide_eq_true M1'.out.2] at MM'
    refine (MM'.out).mono ?_
    rintro e w5 ⟨rfl, hb5⟩
    go_wp2_with fail
    refine (CL.out _).mono ?_
    rintro e w6 ⟨rfl, hb6⟩
    rcases hc with rfl | hc
    · have M2' := Shut.mk (M2.out rfl)
      have g1 : (m : Int) ≥ 0 := by omega
      have g2 : (m : Int) ≤ 640 := by have := M2'.out.1; omega
      go_wp2_with fail
      refine (PB.out m _ (by omega)).mono ?_
      rintro e w7 ⟨v7, m7, rfl, hm7, hN7, hb7⟩
      have HN7 := Shut.mk hN7
      clear hN7
      go_wp2_with fail
      refine (PA.out m _ (by omega)).mono ?_
      rintro e w8 ⟨v8, m8, rfl, hm8, hN8, hb8⟩
      have MM2 := Shut.mk (MM.out v7 v8 _ _ m7 m8 _ (HN7.out.below hb8) hN8 hm7 hm8)
      clear hN8
      go_wp2_with fail
      rw [decide_eq_true M2'.out.2] at MM2
      refine (MM2.out).mono ?_
      rintro e w9 ⟨rfl, hb9⟩
      go_wp2_with fail
      go_ret
      exact ⟨rfl, below3 (below3 (below3 (below3 (below3 (below3 (below3 B2.out hb3) hb4) hb5) hb6) hb7) hb8) hb9⟩
    · have e0 : ((c : Int) == 0) = false := by simp; omega
      have e0' : ((c : Int) != 0) = true := by simp; omega
      clear hc
      go_wp2_with fail
      go_ret
      exact ⟨rfl, below3 (below3 (below3 (below3 B2.out hb3) hb4) hb5) hb6⟩

theorem CountSound_walk (a0 a1 a2 a3 : Int) (w : World) (w0 : (Lit.int .u64 a0).wf = true) (w1 : (Lit.int .u64 a1).wf = true) (w2 : (Lit.int .u64 a2).wf = true) (w3 : (Lit.int .u16 a3).wf = true) :
    Calls Try.prog 5 #[.agg #[.int .u64 a0, .int .u64 a1], .int .u64 a2, .int .u16 a3] w fun e w' => e = .returned (.bool true) ∧ Below w.heap.size w w' := by
  obtain ⟨a, rfl, ha⟩ := nat_of_u64 w0
  obtain ⟨b, rfl, hb⟩ := nat_of_u64 w1
  obtain ⟨s, rfl, hs⟩ := nat_of_u64 w2
  obtain ⟨n, rfl, hn⟩ := nat_of_u16 w3
  have hk1 : n % 641 < 641 := Nat.mod_lt _ (by decide)
  have hs1 : s % 257 < 257 := Nat.mod_lt _ (by decide)
  refine sound_core a b s n (s % 257) (n % 641) (Ct.leastE a b (s % 257)) (Ct.leastN a b (s % 257)) (Ct.passes a b (s % 257) (n % 641)) w rfl rfl hn
    ⟨fun n w h => power_any b n (s % 257) w hb h (by omega)⟩ ⟨fun n w h => power0 a n w ha h⟩
    ⟨fun w => passes_any a b _ _ w ha hb (by omega) (by omega)⟩ ⟨fun w => least_any a b _ w ha hb (by omega)⟩
    ⟨fun h => ⟨by omega, Ct.sound a b _ _ ha h⟩⟩ ⟨fun h => ?_⟩
  unfold Ct.leastE at h
  unfold Ct.leastN
  split at h
  · omega
  · split at h
    · omega
    · split at h
      · omega
      · rw [if_neg (by omega), if_neg (by assumption)]
        exact ⟨by omega, Ct.sound a b _ _ ha (Ct.k_yes a b _ (by omega))⟩

end Go.Proofs.Ytnnpfmelfhgdcaa
