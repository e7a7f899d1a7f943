/- Plain: values of limbs and of bits. -/
import Derived.Test.YtdgklodhgbbdjaaWL
namespace Go.Proofs.Ytdgklodhgbbdjaa
set_option linter.unusedVariables false
set_option linter.unusedSimpArgs false
open Go Go.RowKit

/-- The number that limbs are. -/
def val : List Nat → Nat
  | [] => 0
  | x :: xs => x + 18446744073709551616 * val xs

theorem natOf_add (f : Nat → Bool) (a : Nat) : ∀ b, natOf f (a + b) = natOf f a + 2 ^ a * natOf (fun t => f (a + t)) b
  | 0 => by simp [natOf]
  | b + 1 => by
    have ih := natOf_add f a b
    have h1 := natOf_lt f (a + b)
    have h2 := natOf_lt (fun t => f (a + t)) b
    rw [← Nat.add_assoc, natOf, natOf]
    by_cases hf : f (a + b) = true
    · rw [if_pos hf, if_pos hf, Nat.or_comm (natOf f (a + b)), Nat.or_comm (natOf _ b), ← Nat.mul_one (2 ^ (a + b)), ← Nat.two_pow_add_eq_or_of_lt h1, ← Nat.mul_one (2 ^ b), ← Nat.two_pow_add_eq_or_of_lt h2, ih, Nat.mul_add, Nat.mul_one, Nat.mul_one, ← Nat.pow_add]
      omega
    · rw [if_neg hf, if_neg hf, Nat.or_zero, Nat.or_zero, ih]

theorem natOf_succ (f : Nat → Bool) (k : Nat) : natOf f (k + 1) = natOf f k + 2 ^ k * (if f k then 1 else 0) := by
  rw [natOf_add f k 1]
  congr 2
  simp [natOf]

theorem natOf_congr (f g : Nat → Bool) : ∀ k, (∀ i, i < k → f i = g i) → natOf f k = natOf g k
  | 0, _ => rfl
  | k + 1, h => by rw [natOf, natOf, natOf_congr f g k (fun i hi => h i (by omega)), h k (by omega)]

theorem natOf_self (x n : Nat) (h : x < 2 ^ n) : natOf (fun t => x.testBit t) n = x := by
  apply Nat.eq_of_testBit_eq
  intro t
  rw [natOf_bit]
  by_cases ht : t < n
  · rw [decide_eq_true ht, Bool.true_and]
  · rw [decide_eq_false ht, Bool.false_and]
    exact (Nat.testBit_lt_two_pow (Nat.lt_of_lt_of_le h (Nat.pow_le_pow_right (show 2 > 0 by decide) (by omega)))).symm

theorem bitF_cons (x : Nat) (xs : List Nat) (t : Nat) : bitF (x :: xs) (64 + t) = bitF xs t := by
  unfold bitF
  rw [show (64 + t) / 64 = t / 64 + 1 by omega, show (64 + t) % 64 = t % 64 by omega]; rfl

/-- The bits of limbs are their number's. -/
theorem natOf_bitF : ∀ (ns : List Nat), (∀ x ∈ ns, x < 18446744073709551616) → natOf (bitF ns) (64 * ns.length) = val ns
  | [], _ => rfl
  | x :: xs, h => by
    have ih := natOf_bitF xs (fun y hy => h y (by simp [hy]))
    rw [List.length_cons, show 64 * (xs.length + 1) = 64 + 64 * xs.length by omega, natOf_add, val, ← ih]
    congr 1
    · rw [natOf_congr (bitF (x :: xs)) (fun t => x.testBit t) 64 (fun i hi => by
        unfold bitF
        rw [show i / 64 = 0 by omega, show i % 64 = i by omega]; rfl)]
      exact natOf_self x 64 (h x (by simp))
    · rw [natOf_congr (fun t => bitF (x :: xs) (64 + t)) (bitF xs) _ (fun i _ => bitF_cons x xs i)]

theorem val_inj : ∀ (xs ys : List Nat), xs.length = ys.length → (∀ x ∈ xs, x < 18446744073709551616) → (∀ x ∈ ys, x < 18446744073709551616) → val xs = val ys → xs = ys
  | [], [], _, _, _, _ => rfl
  | x :: xs, y :: ys, hl, hx, hy, h => by
    rw [val, val] at h
    have h1 := hx x (by simp)
    have h2 := hy y (by simp)
    have e1 : x = y := by omega
    have e2 : val xs = val ys := by omega
    rw [e1, val_inj xs ys (by simpa using hl) (fun z hz => hx z (by simp [hz])) (fun z hz => hy z (by simp [hz])) e2]

theorem val_lt : ∀ (xs : List Nat), (∀ x ∈ xs, x < 18446744073709551616) → val xs < 2 ^ (64 * xs.length)
  | [], _ => by decide
  | x :: xs, h => by
    have ih := val_lt xs (fun y hy => h y (by simp [hy]))
    have h1 := h x (by simp)
    rw [val, List.length_cons, show 64 * (xs.length + 1) = 64 * xs.length + 64 by omega, Nat.pow_add]
    have : (2 : Nat) ^ 64 = 18446744073709551616 := by decide
    rw [this]
    omega

theorem limbsUp_lt (f : Nat → Bool) (n i : Nat) : ∀ x ∈ limbsUp f n i, x < 18446744073709551616 := by
  intro x hx
  unfold limbsUp at hx
  obtain ⟨q, _, rfl⟩ := List.mem_map.1 hx
  exact limbUp_lt f q i

/-- What Limbs leaves is the number of the bits, as far as it goes. -/
theorem val_limbsUp (f : Nat → Bool) (n m : Nat) : val (limbsUp f n m) = natOf f m % 2 ^ (64 * n) := by
  have h := natOf_bitF (limbsUp f n m) (limbsUp_lt f n m)
  rw [limbsUp_len] at h
  rw [← h]
  apply Nat.eq_of_testBit_eq
  intro t
  rw [natOf_bit, Nat.testBit_mod_two_pow, natOf_bit]
  by_cases ht : t < 64 * n
  · rw [decide_eq_true ht, Bool.true_and, Bool.true_and]
    unfold bitF
    rw [limbsUp_get _ _ _ _ (by omega), limbUp_bit, decide_eq_true (by omega), Bool.true_and, show 64 * (t / 64) + t % 64 = t by omega]
  · rw [decide_eq_false ht]; rfl

theorem overUp_val (f : Nat → Bool) (n m : Nat) : overUp f n m = decide (2 ^ (64 * n) ≤ natOf f m) := by
  rw [Bool.eq_iff_iff, overUp_iff, decide_eq_true_iff]
  constructor
  · rintro ⟨i, h1, h2, h3⟩
    apply Classical.byContradiction
    intro hn
    have := Nat.testBit_lt_two_pow (Nat.lt_of_lt_of_le (Nat.not_le.1 hn) (Nat.pow_le_pow_right (show 2 > 0 by decide) h1))
    rw [natOf_bit, decide_eq_true h2, h3] at this
    cases this
  · intro h
    apply Classical.byContradiction
    intro hn
    have : natOf f m < 2 ^ (64 * n) := Nat.lt_pow_two_of_testBit _ (fun i hi => by
      rw [natOf_bit]
      by_cases him : i < m
      · cases hf : f i
        · simp
        · exact absurd ⟨i, hi, him, hf⟩ hn
      · rw [decide_eq_false him]; rfl)
    omega

/-- What 'is' asks, by numbers. -/
theorem is_val (ns : List Nat) (o : Bool) (f : Nat → Bool) (n m : Nat) (hl : ns.length = n) (hu : ∀ x ∈ ns, x < 18446744073709551616) :
    (decide (ns = limbsUp f n m) && (o == overUp f n m)) = (decide (val ns = natOf f m % 2 ^ (64 * n)) && (o == decide (2 ^ (64 * n) ≤ natOf f m))) := by
  rw [overUp_val]
  congr 1
  rw [Bool.eq_iff_iff, decide_eq_true_iff, decide_eq_true_iff, ← val_limbsUp]
  constructor
  · intro h; rw [h]
  · intro h
    exact val_inj _ _ (by rw [hl, limbsUp_len]) hu (limbsUp_lt _ _ _) h

end Go.Proofs.Ytdgklodhgbbdjaa
