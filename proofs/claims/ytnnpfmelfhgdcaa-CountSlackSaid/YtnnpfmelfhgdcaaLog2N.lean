/- The plain laws of the logarithms of layer 16, at a number. -/
import Derived.Test.YtnnpfmelfhgdcaaLog2M
import Derived.Test.YtnnpfmelfhgdcaaLog2L
namespace Go.Proofs.Ytnnpfmelfhgdcaa.L2
set_option linter.unusedVariables false
open Go.RowKit

theorem mant_log (x : Nat) (h0 : x ≠ 0) (hx : x < 18446744073709551616) : Mant (x * 2 ^ (63 - x.log2)) :=
  top_mant x x.log2 (log2_lt x h0 hx) (Nat.log2_self_le h0) Nat.lt_log2_self

theorem start_log (x : Nat) (h0 : x ≠ 0) (hx : x < 18446744073709551616) : x * 2 ^ (63 - x.log2) * 2 ^ x.log2 = x * 2 ^ 63 := by
  have h := log2_lt x h0 hx
  rw [Nat.mul_assoc, ← Nat.pow_add]
  congr 2
  omega

theorem lo_of (x : Nat) (h0 : x ≠ 0) : lo x = out false (x * 2 ^ (63 - x.log2)) x.log2 24 := by unfold lo; rw [if_neg h0]
theorem hi_of (x : Nat) (h0 : x ≠ 0) : hi x = out true (x * 2 ^ (63 - x.log2)) x.log2 24 + 1 := by unfold hi; rw [if_neg h0]

theorem lo_pow_any (y o x n : Nat) (hy : Mant y) (h0 : y * 2 ^ o = x * 2 ^ 63) : 2 ^ out false y o n ≤ x ^ (2 ^ n) := by
  have h := below_pow y o x hy h0 n
  have hm := (mant_ok false y hy n).1
  have h2 := Nat.mul_le_mul_right (2 ^ out false y o n) hm
  rw [← h63] at h2
  have h3 : 2 ^ out false y o n * 2 ^ 63 ≤ x ^ (2 ^ n) * 2 ^ 63 := by
    rw [Nat.mul_comm]; exact Nat.le_trans h2 h
  exact Nat.le_of_mul_le_mul_right h3 (Nat.two_pow_pos 63)

theorem hi_pow_any (y o x n : Nat) (hy : Mant y) (h0 : y * 2 ^ o = x * 2 ^ 63) : x ^ (2 ^ n) < 2 ^ (out true y o n + 1) := by
  have h := above_pow y o x hy h0 n
  have hm := (mant_ok true y hy n).2
  have h2 := Nat.mul_lt_mul_of_pos_right hm (Nat.two_pow_pos (out true y o n))
  have h64 : 18446744073709551616 = 2 ^ 63 * 2 := by decide
  rw [h64] at h2
  have h3 : x ^ (2 ^ n) * 2 ^ 63 < 2 ^ (out true y o n + 1) * 2 ^ 63 := by
    refine Nat.lt_of_le_of_lt h (Nat.lt_of_lt_of_eq h2 ?_)
    rw [Nat.pow_succ 2 (out true y o n), Nat.mul_comm, Nat.mul_comm (2 ^ 63), Nat.mul_assoc]
  exact Nat.lt_of_mul_lt_mul_right h3

theorem lo_pow (x : Nat) (h0 : x ≠ 0) (hx : x < 18446744073709551616) (n : Nat) (hn : n = 24) : 2 ^ lo x ≤ x ^ (2 ^ n) := by
  have e : lo x = out false (x * 2 ^ (63 - x.log2)) x.log2 n := by rw [hn]; exact lo_of x h0
  rw [e]
  exact lo_pow_any _ _ x n (mant_log x h0 hx) (start_log x h0 hx)

theorem hi_pow (x : Nat) (h0 : x ≠ 0) (hx : x < 18446744073709551616) (n : Nat) (hn : n = 24) : x ^ (2 ^ n) < 2 ^ hi x := by
  have e : hi x = out true (x * 2 ^ (63 - x.log2)) x.log2 n + 1 := by rw [hn]; exact hi_of x h0
  rw [e]
  exact hi_pow_any _ _ x n (mant_log x h0 hx) (start_log x h0 hx)

/-- How often a number is squared: some number of times. -/
theorem powers : ∃ M : Nat, (∀ x, x ≠ 0 → x < 18446744073709551616 → 2 ^ lo x ≤ x ^ M) ∧ (∀ x, x ≠ 0 → x < 18446744073709551616 → x ^ M < 2 ^ hi x) := by
  obtain ⟨n, hn⟩ : ∃ n : Nat, n = 24 := ⟨_, rfl⟩
  exact ⟨2 ^ n, fun x h0 hx => lo_pow x h0 hx n hn, fun x h0 hx => hi_pow x h0 hx n hn⟩

theorem lo_lt_hi (x : Nat) (h0 : x ≠ 0) (hx : x < 18446744073709551616) : lo x < hi x := by
  obtain ⟨M, lo_pow, hi_pow⟩ := powers
  exact (Nat.pow_lt_pow_iff_right (a := 2) (by omega)).1 (Nat.lt_of_le_of_lt (lo_pow x h0 hx) (hi_pow x h0 hx))

theorem hi_le_lo (x : Nat) (h0 : x ≠ 0) (hx : x < 18446744073709551616) : hi x ≤ lo x + 2 := by
  rw [lo_of x h0, hi_of x h0]
  have := part_one (x * 2 ^ (63 - x.log2)) x.log2 (mant_log x h0 hx)
  omega

theorem sum_lt (x y : Nat) (hx0 : x ≠ 0) (hy0 : y ≠ 0) (hx : x < 18446744073709551616) (hy : y < 18446744073709551616) (hz : x * y < 18446744073709551616) : lo x + lo y < hi (x * y) := by
  obtain ⟨M, lo_pow, hi_pow⟩ := powers
  refine (Nat.pow_lt_pow_iff_right (a := 2) (by omega)).1 ?_
  rw [Nat.pow_add]
  refine Nat.lt_of_le_of_lt (Nat.mul_le_mul (lo_pow x hx0 hx) (lo_pow y hy0 hy)) ?_
  rw [← Nat.mul_pow]
  exact hi_pow (x * y) (by have := Nat.mul_pos (Nat.pos_of_ne_zero hx0) (Nat.pos_of_ne_zero hy0); omega) hz

theorem lt_sum (x y : Nat) (hx0 : x ≠ 0) (hy0 : y ≠ 0) (hx : x < 18446744073709551616) (hy : y < 18446744073709551616) (hz : x * y < 18446744073709551616) : lo (x * y) < hi x + hi y := by
  obtain ⟨M, lo_pow, hi_pow⟩ := powers
  refine (Nat.pow_lt_pow_iff_right (a := 2) (by omega)).1 ?_
  rw [Nat.pow_add]
  refine Nat.lt_of_le_of_lt (lo_pow (x * y) (by have := Nat.mul_pos (Nat.pos_of_ne_zero hx0) (Nat.pos_of_ne_zero hy0); omega) hz) ?_
  rw [Nat.mul_pow]
  exact Nat.mul_lt_mul'' (hi_pow x hx0 hx) (hi_pow y hy0 hy)

theorem times_lt (x t : Nat) (h0 : x ≠ 0) (hx : x < 18446744073709551616) (hp : x ^ t < 18446744073709551616) : t * lo x < hi (x ^ t) := by
  obtain ⟨M, lo_pow, hi_pow⟩ := powers
  refine (Nat.pow_lt_pow_iff_right (a := 2) (by omega)).1 ?_
  rw [Nat.mul_comm, Nat.pow_mul]
  refine Nat.lt_of_le_of_lt (Nat.pow_le_pow_left (lo_pow x h0 hx) t) ?_
  rw [← Nat.pow_mul, Nat.mul_comm, Nat.pow_mul]
  exact hi_pow _ (by have := Nat.pow_pos (n := t) (Nat.pos_of_ne_zero h0); omega) hp

theorem lt_times (x t : Nat) (h0 : x ≠ 0) (ht : t ≠ 0) (hx : x < 18446744073709551616) (hp : x ^ t < 18446744073709551616) : lo (x ^ t) < t * hi x := by
  obtain ⟨M, lo_pow, hi_pow⟩ := powers
  refine (Nat.pow_lt_pow_iff_right (a := 2) (by omega)).1 ?_
  rw [Nat.mul_comm, Nat.pow_mul]
  refine Nat.lt_of_le_of_lt (lo_pow _ (by have := Nat.pow_pos (n := t) (Nat.pos_of_ne_zero h0); omega) hp) ?_
  rw [← Nat.pow_mul, Nat.mul_comm, Nat.pow_mul]
  exact Nat.pow_lt_pow_left (hi_pow x h0 hx) ht

theorem start_rises (x y : Nat) (hx0 : x ≠ 0) (hxy : x ≤ y) : Le (x.log2, x * 2 ^ (63 - x.log2)) (y.log2, y * 2 ^ (63 - y.log2)) := by
  have hy0 : y ≠ 0 := by omega
  have h : x.log2 ≤ y.log2 := by
    refine (Nat.le_log2 hy0).2 (Nat.le_trans (Nat.log2_self_le hx0) hxy)
  rcases Nat.lt_or_ge x.log2 y.log2 with hl | hg
  · exact .inl hl
  · have e : x.log2 = y.log2 := by omega
    exact .inr ⟨e, by dsimp only; rw [e]; exact Nat.mul_le_mul_right _ hxy⟩

theorem out_rises (up : Bool) (x y : Nat) (hx0 : x ≠ 0) (hxy : x ≤ y) (hy : y < 18446744073709551616) :
    out up (x * 2 ^ (63 - x.log2)) x.log2 24 ≤ out up (y * 2 ^ (63 - y.log2)) y.log2 24 := by
  have h := rises up _ x.log2 _ y.log2 (mant_log x hx0 (by omega)) (mant_log y (by omega) hy) (start_rises x y hx0 hxy) 24
  rcases h with h | ⟨h, _⟩
  · exact Nat.le_of_lt h
  · exact Nat.le_of_eq h

theorem lo_rises (x y : Nat) (hxy : x ≤ y) (hy : y < 18446744073709551616) : lo x ≤ lo y := by
  by_cases h0 : x = 0
  · subst h0; simp [lo]
  · rw [lo_of x h0, lo_of y (by omega)]; exact out_rises false x y h0 hxy hy

theorem hi_rises (x y : Nat) (hxy : x ≤ y) (hy : y < 18446744073709551616) : hi x ≤ hi y := by
  by_cases h0 : x = 0
  · subst h0; simp [hi]
  · rw [hi_of x h0, hi_of y (by omega)]; have := out_rises true x y h0 hxy hy; omega

theorem log2_twice (x : Nat) (h0 : x ≠ 0) : (2 * x).log2 = x.log2 + 1 := by
  refine (Nat.log2_eq_iff (by omega)).2 ⟨?_, ?_⟩
  · have := Nat.log2_self_le h0; rw [Nat.pow_succ]; omega
  · have := Nat.lt_log2_self (n := x); rw [Nat.pow_succ]; omega

theorem out_twice (up : Bool) (x : Nat) (h0 : x ≠ 0) (hx : x < 9223372036854775808) :
    out up (2 * x * 2 ^ (63 - (2 * x).log2)) (2 * x).log2 24 = out up (x * 2 ^ (63 - x.log2)) x.log2 24 + 16777216 := by
  have hl := log2_lt (2 * x) (by omega) (by omega)
  rw [log2_twice x h0] at hl ⊢
  have e : 2 * x * 2 ^ (63 - (x.log2 + 1)) = x * 2 ^ (63 - x.log2) := by
    rw [show 63 - x.log2 = 63 - (x.log2 + 1) + 1 from by omega, Nat.pow_succ]; ac_rfl
  rw [e, out_add]

theorem lo_twice (x : Nat) (h0 : x ≠ 0) (hx : x < 9223372036854775808) : lo (2 * x) = lo x + 16777216 := by
  rw [lo_of x h0, lo_of (2 * x) (by omega)]; exact out_twice false x h0 hx
theorem hi_twice (x : Nat) (h0 : x ≠ 0) (hx : x < 9223372036854775808) : hi (2 * x) = hi x + 16777216 := by
  rw [hi_of x h0, hi_of (2 * x) (by omega)]; have := out_twice true x h0 hx; omega

theorem out_pow (up : Bool) (n : Nat) (hn : n < 64) : out up (2 ^ n * 2 ^ (63 - (2 ^ n).log2)) (2 ^ n).log2 24 = n * 16777216 := by
  have e : 2 ^ n * 2 ^ (63 - n) = 9223372036854775808 := by rw [← Nat.pow_add, show n + (63 - n) = 63 from by omega, h63]
  rw [Nat.log2_two_pow, e, out_one]

theorem lo_two_pow (n : Nat) (hn : n < 64) : lo (2 ^ n) = n * 16777216 := by
  rw [lo_of _ (by have := Nat.two_pow_pos n; omega)]; exact out_pow false n hn
theorem hi_two_pow (n : Nat) (hn : n < 64) : hi (2 ^ n) = n * 16777216 + 1 := by
  rw [hi_of _ (by have := Nat.two_pow_pos n; omega)]; exact congrArg (fun k => k + 1) (out_pow true n hn)

theorem lo_pred (n : Nat) (hn : n < 64) (h2 : 2 ≤ n) : lo (2 ^ n - 1) < lo (2 ^ n) := by
  have hp : 2 ^ 2 ≤ 2 ^ n := Nat.pow_le_pow_right (by omega) h2
  have hq : 2 ^ n ≤ 2 ^ 63 := Nat.pow_le_pow_right (by omega) (by omega)
  have h0 : 2 ^ n - 1 ≠ 0 := by omega
  have hl : (2 ^ n - 1).log2 < n := (Nat.log2_lt h0).2 (by omega)
  rw [lo_two_pow n hn, lo_of _ h0]
  have ht := out_top false _ (2 ^ n - 1).log2 (mant_log (2 ^ n - 1) h0 (by omega)) 24
  have e : (2 : Nat) ^ 24 = 16777216 := by decide
  rw [e] at ht
  exact Nat.lt_of_lt_of_le ht (Nat.mul_le_mul_right _ hl)

end Go.Proofs.Ytnnpfmelfhgdcaa.L2
