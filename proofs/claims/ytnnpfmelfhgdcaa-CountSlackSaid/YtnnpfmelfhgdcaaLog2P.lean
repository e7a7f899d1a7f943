/- The logarithms of layer 16 as plain functions on natural numbers: no program in sight. -/
namespace Go.Proofs.Ytnnpfmelfhgdcaa.L2
set_option linter.unusedVariables false

/-- One digit: the lower way (false) cuts what is left off, the upper way (true) takes the next one. -/
def step (up : Bool) (y : Nat) : Nat × Nat :=
  if up then
    (if (y * y + 9223372036854775807) / 9223372036854775808 < 18446744073709551616 then (0, (y * y + 9223372036854775807) / 9223372036854775808)
     else (1, (y * y + 18446744073709551615) / 18446744073709551616))
  else
    (if y * y < 170141183460469231731687303715884105728 then (0, y * y / 9223372036854775808) else (1, y * y / 18446744073709551616))

def Mant (y : Nat) : Prop := 9223372036854775808 ≤ y ∧ y < 18446744073709551616

theorem sq_bounds (y : Nat) (h : Mant y) : 85070591730234615865843651857942052864 ≤ y * y ∧ y * y ≤ 340282366920938463426481119284349108225 := by
  obtain ⟨h1, h2⟩ := h
  exact ⟨by have := Nat.mul_le_mul h1 h1; omega, by have := Nat.mul_le_mul (Nat.le_of_lt_succ h2) (Nat.le_of_lt_succ h2); omega⟩

theorem step_mant (up : Bool) (y : Nat) (h : Mant y) : Mant (step up y).2 ∧ (step up y).1 ≤ 1 := by
  have := sq_bounds y h
  generalize hz : y * y = z at *
  unfold step Mant
  rw [hz]
  cases up
  · simp only [Bool.false_eq_true, if_false]
    split <;> exact ⟨by dsimp only; omega, by dsimp only; omega⟩
  · simp only [if_true]
    split <;> exact ⟨by dsimp only; omega, by dsimp only; omega⟩

/-- The mantissa after k digits. -/
def mant (up : Bool) (y : Nat) : Nat → Nat
  | 0 => y
  | k + 1 => (step up (mant up y k)).2

/-- What has come out after k digits. -/
def out (up : Bool) (y o : Nat) : Nat → Nat
  | 0 => o
  | k + 1 => 2 * out up y o k + (step up (mant up y k)).1

theorem mant_succ (up : Bool) (y k : Nat) : mant up y (k + 1) = (step up (mant up y k)).2 := rfl
theorem out_succ (up : Bool) (y o k : Nat) : out up y o (k + 1) = 2 * out up y o k + (step up (mant up y k)).1 := rfl

theorem mant_ok (up : Bool) (y : Nat) (h : Mant y) (k : Nat) : Mant (mant up y k) := by
  induction k with
  | zero => exact h
  | succ k ih => exact (step_mant up _ ih).1

theorem bit_le (up : Bool) (y : Nat) (h : Mant y) (k : Nat) : (step up (mant up y k)).1 ≤ 1 := (step_mant up _ (mant_ok up y h k)).2

theorem out_lt (up : Bool) (y o : Nat) (h : Mant y) (ho : o < 64) (k : Nat) : out up y o k < 64 * 2 ^ k := by
  induction k with
  | zero => simpa [out] using ho
  | succ k ih =>
    have := bit_le up y h k
    simp only [out, Nat.pow_succ]
    omega

theorem out_small (up : Bool) (y o : Nat) (h : Mant y) (ho : o < 64) (k : Nat) (hk : k ≤ 24) : out up y o k < 1073741824 := by
  have h1 := out_lt up y o h ho k
  have h2 : 2 ^ k ≤ 2 ^ 24 := Nat.pow_le_pow_right (by omega) hk
  omega

end Go.Proofs.Ytnnpfmelfhgdcaa.L2
