/- The plain laws of the logarithms of layer 16: what they bound, that they rise, what they are of powers of two. No program in sight. -/
import Derived.Test.YtnnpfmelfhgdcaaLog2P
namespace Go.Proofs.Ytnnpfmelfhgdcaa.L2
set_option linter.unusedVariables false

/-- The digit's square, from below. -/
theorem step_lo (y : Nat) (h : Mant y) : (step false y).2 * 2 ^ (63 + (step false y).1) ≤ y * y ∧ y * y < ((step false y).2 + 1) * 2 ^ (63 + (step false y).1) := by
  have := sq_bounds y h
  unfold step
  generalize y * y = z at *
  simp only [Bool.false_eq_true, if_false]
  split
  · dsimp only
    have e : 2 ^ (63 + 0) = 9223372036854775808 := by decide
    rw [e]; omega
  · dsimp only
    have e : 2 ^ (63 + 1) = 18446744073709551616 := by decide
    rw [e]; omega

/-- From above. -/
theorem step_hi (y : Nat) (h : Mant y) : y * y ≤ (step true y).2 * 2 ^ (63 + (step true y).1) ∧ ((step true y).2 - 1) * 2 ^ (63 + (step true y).1) ≤ y * y := by
  have := sq_bounds y h
  unfold step
  generalize y * y = z at *
  simp only [if_true]
  split
  · dsimp only
    have e : 2 ^ (63 + 0) = 9223372036854775808 := by decide
    rw [e]; omega
  · dsimp only
    have e : 2 ^ (63 + 1) = 18446744073709551616 := by decide
    rw [e]; omega

theorem sq_pow (x n : Nat) : x ^ (2 ^ (n + 1)) = x ^ (2 ^ n) * x ^ (2 ^ n) := by rw [Nat.pow_succ, Nat.mul_comm, Nat.two_mul, Nat.pow_add]

theorem two_step (o b : Nat) : 2 ^ (2 * o + b) = 2 ^ o * 2 ^ o * 2 ^ b := by rw [Nat.pow_add, Nat.two_mul, Nat.pow_add]

theorem four (a b c d : Nat) : a * b * (c * d) = a * c * (b * d) := by
  rw [Nat.mul_assoc, Nat.mul_assoc, Nat.mul_left_comm b c d]

/-- The lower way stays below the power. -/
theorem below_pow (y o x : Nat) (hy : Mant y) (h0 : y * 2 ^ o = x * 2 ^ 63) (n : Nat) : mant false y n * 2 ^ out false y o n ≤ x ^ (2 ^ n) * 2 ^ 63 := by
  induction n with
  | zero => simpa [mant, out] using Nat.le_of_eq h0
  | succ n ih =>
    have hs := (step_lo (mant false y n) (mant_ok false y hy n)).1
    rw [mant_succ, out_succ, two_step, sq_pow]
    generalize (step false (mant false y n)).2 = y2 at *
    generalize (step false (mant false y n)).1 = b at *
    generalize mant false y n = m at *
    generalize 2 ^ out false y o n = q at *
    generalize x ^ (2 ^ n) = X at *
    rw [Nat.pow_add] at hs
    have h1 := Nat.mul_le_mul ih ih
    have h2 := Nat.mul_le_mul_right (q * q) hs
    -- y2 * (q*q*2^b) * 2^63 ≤ m*m*(q*q) = (m q)^2 ≤ (X 2^63)^2
    have h3 : y2 * (q * q * 2 ^ b) * 2 ^ 63 ≤ X * X * 2 ^ 63 * 2 ^ 63 := by
      calc y2 * (q * q * 2 ^ b) * 2 ^ 63 = y2 * (2 ^ 63 * 2 ^ b) * (q * q) := by ac_rfl
        _ ≤ m * m * (q * q) := h2
        _ = m * q * (m * q) := by ac_rfl
        _ ≤ X * 2 ^ 63 * (X * 2 ^ 63) := h1
        _ = X * X * 2 ^ 63 * 2 ^ 63 := by ac_rfl
    exact Nat.le_of_mul_le_mul_right h3 (Nat.two_pow_pos 63)

/-- The upper way stays above it. -/
theorem above_pow (y o x : Nat) (hy : Mant y) (h0 : y * 2 ^ o = x * 2 ^ 63) (n : Nat) : x ^ (2 ^ n) * 2 ^ 63 ≤ mant true y n * 2 ^ out true y o n := by
  induction n with
  | zero => simpa [mant, out] using Nat.le_of_eq h0.symm
  | succ n ih =>
    have hs := (step_hi (mant true y n) (mant_ok true y hy n)).1
    rw [mant_succ, out_succ, two_step, sq_pow]
    generalize (step true (mant true y n)).2 = y2 at *
    generalize (step true (mant true y n)).1 = b at *
    generalize mant true y n = m at *
    generalize 2 ^ out true y o n = q at *
    generalize x ^ (2 ^ n) = X at *
    rw [Nat.pow_add] at hs
    have h1 := Nat.mul_le_mul ih ih
    have h2 := Nat.mul_le_mul_right (q * q) hs
    have h3 : X * X * 2 ^ 63 * 2 ^ 63 ≤ y2 * (q * q * 2 ^ b) * 2 ^ 63 := by
      calc X * X * 2 ^ 63 * 2 ^ 63 = X * 2 ^ 63 * (X * 2 ^ 63) := by ac_rfl
        _ ≤ m * q * (m * q) := h1
        _ = m * m * (q * q) := by ac_rfl
        _ ≤ y2 * (2 ^ 63 * 2 ^ b) * (q * q) := h2
        _ = y2 * (q * q * 2 ^ b) * 2 ^ 63 := by ac_rfl
    exact Nat.le_of_mul_le_mul_right h3 (Nat.two_pow_pos 63)

/-- How far the two ways part: in units of 2^60. -/
def err (n : Nat) : Nat := 2 ^ (n + 1) - 2

theorem err_next : ∀ n, n < 24 → 9223372036854775809 * ((1152921504606846976 + err n) * (1152921504606846976 + err n)) ≤ 9223372036854775807 * 1152921504606846976 * (1152921504606846976 + err (n + 1)) := by decide

theorem near_lo1 (l2 : Nat) (h : 9223372036854775808 ≤ l2) : (l2 + 1) * 9223372036854775808 ≤ l2 * 9223372036854775809 := by omega
theorem near_hi1 (u2 : Nat) (h : 9223372036854775808 ≤ u2) : u2 * 9223372036854775807 ≤ (u2 - 1) * 9223372036854775808 := by omega
theorem h63 : 2 ^ 63 = 9223372036854775808 := by decide
theorem cpos : 0 < 9223372036854775807 * 1152921504606846976 := by decide
theorem near_lo (l l2 lb : Nat) (h : 9223372036854775808 ≤ l2) (hl : l * l < (l2 + 1) * 2 ^ (63 + lb)) : l * l ≤ l2 * 2 ^ lb * 9223372036854775809 := by
  have a2 := Nat.mul_le_mul_right (2 ^ lb) (near_lo1 l2 h)
  rw [Nat.pow_add, h63, ← Nat.mul_assoc] at hl
  rw [Nat.mul_right_comm]
  exact Nat.le_trans (Nat.le_of_lt hl) a2
theorem near_hi (u u2 ub : Nat) (h : 9223372036854775808 ≤ u2) (hu : (u2 - 1) * 2 ^ (63 + ub) ≤ u * u) : u2 * 2 ^ ub * 9223372036854775807 ≤ u * u := by
  have a2 := Nat.mul_le_mul_right (2 ^ ub) (near_hi1 u2 h)
  rw [Nat.pow_add, h63, ← Nat.mul_assoc] at hu
  rw [Nat.mul_right_comm]
  exact Nat.le_trans a2 hu

theorem part_key (u2 p ub l2 q lb u l c d E e e' : Nat) (ih : u * p * E ≤ l * q * (E + e)) (he : d * ((E + e) * (E + e)) ≤ c * E * (E + e'))
    (hl' : l * l ≤ l2 * 2 ^ lb * d) (hu' : u2 * 2 ^ ub * c ≤ u * u) :
    u2 * (p * p * 2 ^ ub) * E * (c * E) ≤ l2 * (q * q * 2 ^ lb) * (E + e') * (c * E) := by
  generalize 2 ^ ub = x at *
  generalize 2 ^ lb = y at *
  generalize E + e = f at *
  generalize E + e' = g at *
  calc u2 * (p * p * x) * E * (c * E) = u2 * x * c * (p * p) * (E * E) := by ac_rfl
    _ ≤ u * u * (p * p) * (E * E) := Nat.mul_le_mul_right _ (Nat.mul_le_mul_right _ hu')
    _ = u * p * E * (u * p * E) := by ac_rfl
    _ ≤ l * q * f * (l * q * f) := Nat.mul_le_mul ih ih
    _ = l * l * (q * q) * (f * f) := by ac_rfl
    _ ≤ l2 * y * d * (q * q) * (f * f) := Nat.mul_le_mul_right _ (Nat.mul_le_mul_right _ hl')
    _ = l2 * (q * q * y) * (d * (f * f)) := by ac_rfl
    _ ≤ l2 * (q * q * y) * (c * E * g) := Nat.mul_le_mul_left _ he
    _ = l2 * (q * q * y) * g * (c * E) := by ac_rfl

theorem part (y o : Nat) (hy : Mant y) (n : Nat) (hn : n ≤ 24) :
    mant true y n * 2 ^ out true y o n * 1152921504606846976 ≤ mant false y n * 2 ^ out false y o n * (1152921504606846976 + err n) := by
  induction n with
  | zero => simp [mant, out, err]
  | succ n ih =>
    have ih := ih (by omega)
    have he := err_next n (by omega)
    have hl := (step_lo (mant false y n) (mant_ok false y hy n)).2
    have hu := (step_hi (mant true y n) (mant_ok true y hy n)).2
    have ml := (step_mant false _ (mant_ok false y hy n)).1
    have mu := (step_mant true _ (mant_ok true y hy n)).1
    rw [mant_succ, out_succ, two_step, mant_succ, out_succ, two_step]
    generalize err (n + 1) = e' at *
    generalize err n = e at *
    generalize (step true (mant true y n)).2 = u2 at *
    generalize (step true (mant true y n)).1 = ub at *
    generalize (step false (mant false y n)).2 = l2 at *
    generalize (step false (mant false y n)).1 = lb at *
    generalize mant true y n = u at *
    generalize mant false y n = l at *
    generalize 2 ^ out true y o n = p at *
    generalize 2 ^ out false y o n = q at *
    exact Nat.le_of_mul_le_mul_right (part_key u2 p ub l2 q lb u l 9223372036854775807 9223372036854775809 1152921504606846976 e e' ih he (near_lo l l2 lb ml.1 hl) (near_hi u u2 ub mu.1 hu)) cpos

/-- The upper way's number is at most one above the lower way's. -/
theorem part_one (y o : Nat) (hy : Mant y) : out true y o 24 ≤ out false y o 24 + 1 := by
  have h := part y o hy 24 (by omega)
  have ml := (mant_ok false y hy 24).2
  have mu := (mant_ok true y hy 24).1
  have he : err 24 ≤ 1152921504606846976 - 1 := by decide
  generalize err 24 = e at *
  generalize mant true y 24 = u at *
  generalize mant false y 24 = l at *
  generalize out true y o 24 = a at *
  generalize out false y o 24 = b at *
  refine Nat.le_of_lt_succ ((Nat.pow_lt_pow_iff_right (a := 2) (by omega)).1 ?_)
  have e2 : 2 ^ (b + 1 + 1) = 4 * 2 ^ b := by rw [Nat.pow_succ, Nat.pow_succ]; omega
  rw [Nat.succ_eq_add_one, e2]
  have hq := Nat.two_pow_pos b
  generalize 2 ^ a = p at *
  generalize 2 ^ b = q at *
  have h1 : 9223372036854775808 * p ≤ u * p := Nat.mul_le_mul_right _ mu
  have h2 : l * q ≤ 18446744073709551615 * q := Nat.mul_le_mul_right _ (by omega)
  have h3 : l * q * (1152921504606846976 + e) ≤ 18446744073709551615 * q * 2305843009213693951 := Nat.mul_le_mul h2 (by omega)
  omega

/-- The ways' states rise with what they begin at. -/
def Le (p q : Nat × Nat) : Prop := p.1 < q.1 ∨ (p.1 = q.1 ∧ p.2 ≤ q.2)

theorem step_rises (up : Bool) (y z : Nat) (h : y ≤ z) : Le (step up y) (step up z) := by
  have hs : y * y ≤ z * z := Nat.mul_le_mul h h
  unfold step Le
  generalize y * y = a at *
  generalize z * z = b at *
  cases up
  · simp only [Bool.false_eq_true, if_false]
    split <;> split <;> (dsimp only; omega)
  · simp only [if_true]
    split <;> split <;> (dsimp only; omega)

theorem rises (up : Bool) (y o z p : Nat) (hy : Mant y) (hz : Mant z) (h : Le (o, y) (p, z)) (n : Nat) : Le (out up y o n, mant up y n) (out up z p n, mant up z n) := by
  induction n with
  | zero => exact h
  | succ n ih =>
    have b1 := bit_le up y hy n
    have b2 := bit_le up z hz n
    have hs := step_rises up (mant up y n) (mant up z n)
    rw [mant_succ, out_succ, mant_succ, out_succ]
    unfold Le at *
    dsimp only at *
    generalize (step up (mant up y n)).2 = y2 at *
    generalize (step up (mant up y n)).1 = yb at *
    generalize (step up (mant up z n)).2 = z2 at *
    generalize (step up (mant up z n)).1 = zb at *
    rcases ih with ih | ⟨ih1, ih2⟩
    · left; omega
    · rcases hs ih2 with hs | ⟨hs1, hs2⟩
      · left; omega
      · right; exact ⟨by omega, hs2⟩

theorem out_add (up : Bool) (y o d : Nat) (n : Nat) : out up y (o + d) n = out up y o n + d * 2 ^ n := by
  induction n with
  | zero => simp [out]
  | succ n ih => rw [out_succ, out_succ, ih, Nat.pow_succ]; have : d * (2 ^ n * 2) = 2 * (d * 2 ^ n) := by ac_rfl
                 omega

theorem out_top (up : Bool) (y o : Nat) (hy : Mant y) (n : Nat) : out up y o n < (o + 1) * 2 ^ n := by
  induction n with
  | zero => simp [out]
  | succ n ih =>
    have := bit_le up y hy n
    have e : (o + 1) * (2 ^ n * 2) = 2 * ((o + 1) * 2 ^ n) := by ac_rfl
    rw [out_succ, Nat.pow_succ, e]; omega

theorem step_one (up : Bool) : step up 9223372036854775808 = (0, 9223372036854775808) := by cases up <;> decide
theorem mant_one (up : Bool) (n : Nat) : mant up 9223372036854775808 n = 9223372036854775808 := by
  induction n with
  | zero => rfl
  | succ n ih => rw [mant_succ, ih, step_one]
theorem out_one (up : Bool) (o n : Nat) : out up 9223372036854775808 o n = o * 2 ^ n := by
  induction n with
  | zero => simp [out]
  | succ n ih =>
    have e : o * (2 ^ n * 2) = 2 * (o * 2 ^ n) := by ac_rfl
    rw [out_succ, ih, mant_one, step_one, Nat.pow_succ, e]; omega

end Go.Proofs.Ytnnpfmelfhgdcaa.L2
