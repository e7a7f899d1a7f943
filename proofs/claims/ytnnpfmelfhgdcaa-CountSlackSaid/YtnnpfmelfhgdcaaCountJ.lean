/- Walk: CountSlack. -/
import Derived.Test.YtnnpfmelfhgdcaaCountS
namespace Go.Proofs.Ytnnpfmelfhgdcaa
set_option linter.unusedVariables false
open Go.RowKit Go.Shelf

theorem Ct.slack_of (M a b s k h l : Nat) (hM : M ≠ 0) (hk : k ≠ 0) (hl : 2 ^ l ≤ b ^ M) (hh : a ^ M < 2 ^ h) (hp : b ^ k * 2 ^ s ≤ a ^ k) : k * l + s * M < k * h := by
  have h1 : (b ^ k * 2 ^ s) ^ M ≤ (a ^ k) ^ M := Nat.pow_le_pow_left hp M
  have e1 : (b ^ k * 2 ^ s) ^ M = (b ^ M) ^ k * 2 ^ (s * M) := by
    rw [Nat.mul_pow, ← Nat.pow_mul, ← Nat.pow_mul, ← Nat.pow_mul, Nat.mul_comm k M]
  have e2 : (a ^ k) ^ M = (a ^ M) ^ k := by rw [← Nat.pow_mul, ← Nat.pow_mul, Nat.mul_comm]
  rw [e1, e2] at h1
  have h2 : (a ^ M) ^ k < (2 ^ h) ^ k := Nat.pow_lt_pow_left hh hk
  have h3 : (2 ^ l) ^ k * 2 ^ (s * M) ≤ (b ^ M) ^ k * 2 ^ (s * M) := Nat.mul_le_mul_right _ (Nat.pow_le_pow_left hl k)
  have h4 : (2 ^ l) ^ k * 2 ^ (s * M) < (2 ^ h) ^ k := Nat.lt_of_le_of_lt (Nat.le_trans h3 h1) h2
  rw [← Nat.pow_mul, ← Nat.pow_mul, ← Nat.pow_add, Nat.mul_comm l, Nat.mul_comm h] at h4
  exact (Nat.pow_lt_pow_iff_right (by decide)).1 h4

theorem Ct.slack (a b s k : Nat) (ha : a < 18446744073709551616) (hb : b ≠ 0) (hab : b < a) (hk : k ≠ 0) (hp : b ^ k * 2 ^ s ≤ a ^ k * 2 ^ 0) : s * 16777216 < k * (Ct.gain a b + 4) := by
  obtain ⟨n, hn⟩ : ∃ n, n = 24 := ⟨_, rfl⟩
  rw [Nat.pow_zero, Nat.mul_one] at hp
  have hl := L2.lo_pow b hb (by omega) n hn
  have hh := L2.hi_pow a (by omega) ha n hn
  have hM : 2 ^ n = 16777216 := by subst hn; rfl
  rw [← hM]
  have hM0 : 2 ^ n ≠ 0 := by rw [hM]; decide
  clear hn hM
  generalize 2 ^ n = M at *
  have h1 := Ct.slack_of M a b s k _ _ hM0 hk hl hh hp
  have h2 := L2.hi_le_lo a (by omega) ha
  have h3 := L2.hi_le_lo b hb (by omega)
  unfold Ct.gain
  rw [if_neg (by omega)]
  have h4 : k * L2.hi a ≤ k * (L2.lo b + (L2.lo a - L2.hi b + 4)) := Nat.mul_le_mul_left _ (by omega)
  rw [Nat.mul_add] at h4
  omega

set_option maxRecDepth 100000 in
set_option maxHeartbeats 1000000 in
theorem slack_none (a b s0 n0 s k : Nat) (w : World) (hs0 : (s0 : Int) % 257 = (s : Int)) (hk0 : (n0 : Int) % 640 = (k : Int)) (hn0 : n0 < 65536) (hk : k < 640) (h : b = 0 ∨ a ≤ b) :
    Calls Try.prog 9 #[.agg #[.int .u64 a, .int .u64 b], .int .u64 s0, .int .u16 n0] w fun e w' => e = .returned (.bool true) ∧ Below w.heap.size w w' := by
  have A1 := Shut.mk ((Below.refl w.heap.size w).alloc (Nat.le_refl _) (.cells #[.int .u64 (a : Int), .int .u64 (b : Int)] 23))
  by_cases h0 : b = 0
  · subst h0
    go_enter Try.func9, Try.ntmps9
    go_wp2_with fail
    refine (works17_any _).mono ?_
    rintro e w1 ⟨rfl, hb1⟩
    obtain ⟨c1, f1⟩ := bcell hb1
    have hz := hb1.size
    go_wp2_with fail
    go_quiet (fail)
    clear c1 f1 hz
    go_wp2_with fail
    go_ret
    exact ⟨rfl, below_drewN (below3 A1.out hb1) nq⟩
  · have e0 : ((b : Int) == 0) = false := by simp; omega
    have e1 : (a : Int) ≤ (b : Int) := by omega
    clear h
    go_enter Try.func9, Try.ntmps9
    go_wp2_with fail
    refine (works17_any _).mono ?_
    rintro e w1 ⟨rfl, hb1⟩
    obtain ⟨c1, f1⟩ := bcell hb1
    have hz := hb1.size
    go_wp2_with fail
    go_quiet (fail)
    clear c1 f1 hz
    go_wp2_with fail
    go_ret
    exact ⟨rfl, below_drewN (below3 A1.out hb1) nq⟩

set_option maxRecDepth 100000 in
set_option maxHeartbeats 1000000 in
theorem slack_core (a b s0 n0 s k c m g P Q : Nat) (q : Bool) (w : World) (hs0 : (s0 : Int) % 257 = (s : Int)) (hk0 : (n0 : Int) % 640 + 1 = (k : Int)) (hk9 : (1 : Int) + (n0 : Int) % 640 = (k : Int)) (hn0 : n0 < 65536)
    (e0 : ((b : Int) == 0) = false) (e1 : ¬ (a : Int) ≤ (b : Int)) (hk : k ≤ 640) (hg : g < 1073741824)
    (hP : (k : Int) * ((g : Int) + 4) = (P : Int)) (hP2 : P < 1000000000000) (hQ : ((m : Int) - 1) * (g : Int) = (Q : Int) ∨ m = 0) (hQ2 : Q < 1000000000000) (hm : m ≤ 640)
    (PB : Shut (∀ n w, n ≤ 10000 → Calls Try.prog 18 #[.int .u64 b, .int .i64 (n : Nat), .int .u64 s] w fun e w' => ∃ (v' : Value) (m' : Nat), e = .returned v' ∧ m' ≤ 100000 ∧ Num w' v' (b ^ n * 2 ^ s) m' ∧ Below w.heap.size w w'))
    (PA : Shut (∀ n w, n ≤ 10000 → Calls Try.prog 18 #[.int .u64 a, .int .i64 (n : Nat), .int .u64 0] w fun e w' => ∃ (v' : Value) (m' : Nat), e = .returned v' ∧ m' ≤ 100000 ∧ Num w' v' (a ^ n * 2 ^ 0) m' ∧ Below w.heap.size w w'))
    (CG : Shut (∀ w, Calls Try.prog 10 #[.int .u64 a, .int .u64 b] w fun e w' => e = .returned (.int .u64 g) ∧ Below w.heap.size w w'))
    (CL : Shut (∀ w, Calls Try.prog 15 #[.int .u64 a, .int .u64 b, .int .u64 s] w fun e w' => e = .returned (.tuple #[.int .i64 m, .int .i64 c]) ∧ Below w.heap.size w w'))
    (M1 : Shut (q = decide (b ^ k * 2 ^ s ≤ a ^ k * 2 ^ 0))) (M2 : Shut (q = true → c = 13 ∧ 640 * g < P ∨ c = 0 ∧ m = 0 ∨ c = 0 ∧ m ≠ 0 ∧ Q < P)) :
    Calls Try.prog 9 #[.agg #[.int .u64 a, .int .u64 b], .int .u64 s0, .int .u16 n0] w fun e w' => e = .returned (.bool true) ∧ Below w.heap.size w w' := by
  have A1 := Shut.mk ((Below.refl w.heap.size w).alloc (Nat.le_refl _) (.cells #[.int .u64 (a : Int), .int .u64 (b : Int)] 23))
  have MM := Shut.mk most_any
  have HQ := Shut.mk hQ
  have HQ2 := Shut.mk hQ2
  have HP := Shut.mk hP
  have HP2 := Shut.mk hP2
  clear hQ hP hQ2 hP2
  go_enter Try.func9, Try.ntmps9
  go_wp2_with fail
  refine (works17_any _).mono ?_
  rintro e w1 ⟨rfl, hb1⟩
  obtain ⟨c1, f1⟩ := bcell hb1
  have hz := hb1.size
  go_wp2_with fail
  go_quiet (fail)
  clear c1 f1 hz
  go_wp2_with fail
  refine (PB.out _ _ (by omega)).mono ?_
  rintro e w3 ⟨v3, m3, rfl, hm3, hN3, hb3⟩
  have HN3 := Shut.mk hN3
  clear hN3
  go_wp2_with fail
  refine (PA.out _ _ (by omega)).mono ?_
  rintro e w4 ⟨v4, m4, rfl, hm4, hN4, hb4⟩
  have MM' := Shut.mk (MM.out v3 v4 _ _ m3 m4 _ (HN3.out.below hb4) hN4 hm3 hm4)
  clear hN4
  rw [← M1.out] at MM'
  have B4 := Shut.mk (below3 (below3 (below_drewN (below3 A1.out hb1) nq) hb3) hb4)
  clear A1 hb1 hb3 hb4 M1 HN3 MM
  rcases q with _ | _
  · go_wp2_with fail
    refine (MM'.out).mono ?_
    rintro e w5 ⟨rfl, hb5⟩
    go_wp2_with fail
    go_ret
    exact ⟨rfl, below3 B4.out hb5⟩
  · have M2' := M2.out rfl
    go_wp2_with fail
    refine (MM'.out).mono ?_
    rintro e w5 ⟨rfl, hb5⟩
    go_wp2_with fail
    refine (CG.out _).mono ?_
    rintro e w6 ⟨rfl, hb6⟩
    go_wp2_with fail
    refine (CL.out _).mono ?_
    rintro e w7 ⟨rfl, hb7⟩
    have B7 := Shut.mk (below3 (below3 (below3 B4.out hb5) hb6) hb7)
    clear B4 hb5 hb6 hb7 PA PB CG CL MM'
    have WP : IntKind.u64.wrap ((k : Int) * ((g : Int) + 4)) = (P : Int) := by rw [HP.out, IntKind.wrap_u64]; have := HP2.out; omega
    rcases M2' with ⟨rfl, h1⟩ | ⟨rfl, rfl⟩ | ⟨rfl, h0, h1⟩
    · have h2 : (640 : Int) * (g : Int) < (P : Int) := by omega
      go_wp2_with fail
      go_ret
      exact ⟨rfl, B7.out⟩
    · go_wp2_with fail
      go_ret
      exact ⟨rfl, B7.out⟩
    · have h2 : (Q : Int) < (P : Int) := by omega
      have h3 : ((m : Int) == 0) = false := by simp; omega
      obtain ⟨j, hj⟩ : ∃ j : Nat, (m : Int) - 1 = (j : Int) := ⟨m - 1, by omega⟩
      have hj2 : j < 1000 := by omega
      have WQ : IntKind.u64.wrap ((j : Int) * (g : Int)) = (Q : Int) := by
        rw [← hj, (HQ.out.resolve_right h0), IntKind.wrap_u64]; have := HQ2.out; omega
      clear HQ HP h0 h1
      go_wp2_with fail
      go_ret
      exact ⟨rfl, B7.out⟩

theorem CountSlack_walk (a0 a1 a2 a3 : Int) (w : World) (w0 : (Lit.int .u64 a0).wf = true) (w1 : (Lit.int .u64 a1).wf = true) (w2 : (Lit.int .u64 a2).wf = true) (w3 : (Lit.int .u16 a3).wf = true) :
    Calls Try.prog 9 #[.agg #[.int .u64 a0, .int .u64 a1], .int .u64 a2, .int .u16 a3] w fun e w' => e = .returned (.bool true) ∧ Below w.heap.size w w' := by
  obtain ⟨a, rfl, ha⟩ := nat_of_u64 w0
  obtain ⟨b, rfl, hb⟩ := nat_of_u64 w1
  obtain ⟨s, rfl, hs⟩ := nat_of_u64 w2
  obtain ⟨n, rfl, hn⟩ := nat_of_u16 w3
  have hk1 : n % 640 < 640 := Nat.mod_lt _ (by decide)
  have hs1 : s % 257 < 257 := Nat.mod_lt _ (by decide)
  by_cases h : b = 0 ∨ a ≤ b
  · exact slack_none a b s n (s % 257) (n % 640) w rfl rfl hn hk1 h
  · have hg := Ct.gain_lt a b ha
    have hP2 : (n % 640 + 1) * (Ct.gain a b + 4) ≤ 640 * (1073741824 + 4) := Nat.mul_le_mul (by omega) (by omega)
    have hm : Ct.leastN a b (s % 257) ≤ 640 := by
      unfold Ct.leastN
      split
      · omega
      · split <;> omega
    have hQ2 : (Ct.leastN a b (s % 257) - 1) * Ct.gain a b ≤ 640 * 1073741824 := Nat.mul_le_mul (by omega) (by omega)
    refine slack_core a b s n (s % 257) (n % 640 + 1) (Ct.leastE a b (s % 257)) (Ct.leastN a b (s % 257)) (Ct.gain a b) ((n % 640 + 1) * (Ct.gain a b + 4)) ((Ct.leastN a b (s % 257) - 1) * Ct.gain a b) (decide (b ^ (n % 640 + 1) * 2 ^ (s % 257) ≤ a ^ (n % 640 + 1) * 2 ^ 0)) w rfl (by omega) (by omega) hn
      (by simp; omega) (by omega) (by omega) hg (by rw [Int.natCast_mul]; rfl) (by omega) ?_ (by omega) hm
      ⟨fun n w h => power_any b n (s % 257) w hb h (by omega)⟩ ⟨fun n w h => power0 a n w ha h⟩
      ⟨fun w => gain_any a b w ha hb⟩ ⟨fun w => least_any a b _ w ha hb (by omega)⟩ ⟨rfl⟩ ⟨fun hq => ?_⟩
    · rcases Nat.eq_zero_or_pos (Ct.leastN a b (s % 257)) with e | e
      · exact .inr e
      · refine .inl ?_
        rw [Int.natCast_mul, show ((Ct.leastN a b (s % 257) - 1 : Nat) : Int) = (Ct.leastN a b (s % 257) : Int) - 1 by omega]
    · have hsl := Ct.slack a b (s % 257) (n % 640 + 1) ha (by omega) (by omega) (by omega) (by simpa using hq)
      unfold Ct.leastN Ct.leastE
      rw [if_neg h, if_neg (by omega), if_neg (by omega)]
      have nop : ∀ t, Ct.passes a b (s % 257) t = false → t * Ct.gain a b < s % 257 * 16777216 := by
        intro t ht
        unfold Ct.passes at ht
        rw [decide_eq_false_iff_not] at ht
        rcases Nat.lt_or_ge (t * Ct.gain a b) (s % 257 * 16777216) with h1 | h1
        · exact h1
        · exact absurd ⟨by omega, by omega, h1⟩ ht
      by_cases hk : 640 < Ct.k a b (s % 257)
      · rw [if_pos hk, if_pos hk]
        have := nop 640 (Ct.k_no a b _ 640 hk)
        exact .inl ⟨rfl, by omega⟩
      · rw [if_neg hk, if_neg hk]
        rcases Nat.eq_zero_or_pos (Ct.k a b (s % 257)) with e | e
        · exact .inr (.inl ⟨rfl, e⟩)
        · have := nop _ (Ct.k_no a b (s % 257) (Ct.k a b (s % 257) - 1) (by omega))
          exact .inr (.inr ⟨rfl, by omega, by omega⟩)

end Go.Proofs.Ytnnpfmelfhgdcaa
