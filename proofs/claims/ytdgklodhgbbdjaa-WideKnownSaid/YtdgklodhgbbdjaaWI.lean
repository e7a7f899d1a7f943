/- Plain: division of two limbs by one, by half limbs. -/
import Derived.Test.YtdgklodhgbbdjaaWH
namespace Go.Proofs.Ytdgklodhgbbdjaa
set_option linter.unusedVariables false
set_option linter.unusedSimpArgs false
open Go Go.RowKit

/-- A divisor in halves, its top bit set; a number below the divisor. -/
structure Norm (y1 yn1 yn0 : Nat) : Prop where
  halves : y1 = yn1 * 4294967296 + yn0
  low : yn0 < 4294967296
  top : 2147483648 ≤ yn1
  lt : yn1 < 4294967296

theorem Norm.pos {y1 yn1 yn0 : Nat} (h : Norm y1 yn1 yn0) : 0 < y1 := by have := h.halves; have := h.top; omega

theorem mul_halves {y1 yn1 yn0 : Nat} (h : Norm y1 yn1 yn0) (q : Nat) : q * y1 = (q * yn1) * 4294967296 + q * yn0 := by
  rw [h.halves, Nat.mul_add, ← Nat.mul_assoc]

/-- The test of the loop asks whether the quotient is too great. -/
theorem knuth_test {y1 yn1 yn0 un un1 q r : Nat} (h : Norm y1 yn1 yn0) (hq : q * yn1 + r = un) : (4294967296 * r + un1 < q * yn0) ↔ (un * 4294967296 + un1 < q * y1) := by
  rw [mul_halves h q, ← hq]
  constructor <;> intro _ <;> omega

theorem quot_le {y q u : Nat} (hy : 0 < y) : q * y ≤ u ↔ q ≤ u / y := (Nat.le_div_iff_mul_le hy).symm

/-- What the loop keeps. -/
def Kn (yn1 un Q q r : Nat) : Prop := q * yn1 + r = un ∧ Q ≤ q ∧ q ≤ 4294967297 ∧ r < 4294967296

theorem Kn.start {y1 yn1 yn0 un un1 : Nat} (h : Norm y1 yn1 yn0) (hu : un < y1) (h1 : un1 < 4294967296) : Kn yn1 un ((un * 4294967296 + un1) / y1) (un / yn1) (un % yn1) := by
  have hp : 0 < yn1 := by have := h.top; omega
  have e : un / yn1 * yn1 + un % yn1 = un := by rw [Nat.mul_comm]; exact Nat.div_add_mod un yn1
  have hr := Nat.mod_lt un hp
  refine ⟨e, ?_, ?_, by have := h.lt; omega⟩
  · apply Nat.le_of_lt_succ
    rw [Nat.div_lt_iff_lt_mul h.pos, mul_halves h, Nat.succ_mul]
    have : un < (un / yn1 + 1) * yn1 := by rw [Nat.succ_mul]; omega
    rw [Nat.succ_mul] at this
    have := Nat.zero_le ((un / yn1 + 1) * yn0)
    have e2 : (un / yn1).succ * yn0 = (un / yn1 + 1) * yn0 := rfl
    omega
  · have hh := h.halves
    have h2 := h.top
    have h3 := h.low
    apply Classical.byContradiction
    intro hn
    have h4 : 4294967298 * yn1 ≤ un / yn1 * yn1 := Nat.mul_le_mul_right yn1 (by omega)
    omega

theorem Kn.down {y1 yn1 yn0 un un1 q r : Nat} (h : Norm y1 yn1 yn0) (hu : un < y1) (h1 : un1 < 4294967296) (hk : Kn yn1 un ((un * 4294967296 + un1) / y1) q r) (ht : 4294967296 ≤ q ∨ 4294967296 * r + un1 < q * yn0) :
    1 ≤ q ∧ (q - 1) * yn1 + (r + yn1) = un ∧ (un * 4294967296 + un1) / y1 ≤ q - 1 ∧ q - 1 ≤ 4294967296 ∧ (4294967296 ≤ r + yn1 → q - 1 = (un * 4294967296 + un1) / y1) := by
  obtain ⟨k1, k2, k3, k4⟩ := hk
  have hgt : (un * 4294967296 + un1) / y1 < q := by
    rw [Nat.div_lt_iff_lt_mul h.pos]
    rcases ht with ht | ht
    · have := Nat.mul_le_mul_right y1 ht
      omega
    · exact (knuth_test h k1).1 ht
  have hq0 : 0 < q := Nat.lt_of_le_of_lt (Nat.zero_le _) hgt
  obtain ⟨p, rfl⟩ : ∃ p, q = p + 1 := ⟨q - 1, by omega⟩
  rw [Nat.add_sub_cancel]
  rw [Nat.succ_mul] at k1
  refine ⟨by omega, by omega, by omega, by omega, fun hb => ?_⟩
  apply Nat.le_antisymm ?_ (by omega)
  rw [← quot_le h.pos, mul_halves h p]
  have : p * yn0 ≤ 4294967296 * 4294967295 := Nat.mul_le_mul (by omega) (by have := h.low; omega)
  omega

theorem Kn.done {y1 yn1 yn0 un un1 q r : Nat} (h : Norm y1 yn1 yn0) (hk : Kn yn1 un ((un * 4294967296 + un1) / y1) q r) (h1 : ¬ 4294967296 * r + un1 < q * yn0) : q = (un * 4294967296 + un1) / y1 := by
  apply Nat.le_antisymm ?_ hk.2.1
  rw [← quot_le h.pos]
  have := mt (knuth_test h hk.1).2 h1
  omega

/-- What is left of a half step. -/
theorem rest_wrap (un un1 m : Nat) (h1 : m ≤ un * 4294967296 + un1) (h2 : un * 4294967296 + un1 - m < 18446744073709551616) (e1 e2 e3 : Nat) (he1 : e1 = un * 4294967296 % 18446744073709551616) (he2 : e2 = (e1 + un1) % 18446744073709551616) (he3 : e3 = m % 18446744073709551616) :
    IntKind.u64.wrap ((e2 : Int) - (e3 : Int)) = ((un * 4294967296 + un1 - m : Nat) : Int) := by
  rw [IntKind.wrap_u64]; omega

theorem wrap_mulc (x c p : Nat) (h : p = x * c % 18446744073709551616) : IntKind.u64.wrap ((x : Int) * (c : Int)) = (p : Int) := by
  have e : ((x * c : Nat) : Int) = (x : Int) * (c : Int) := by push_cast; rfl
  rw [IntKind.wrap_u64, h, ← e]
  generalize x * c = t
  omega

theorem wrap_addm (x y p : Nat) (h : p = (x + y) % 18446744073709551616) : IntKind.u64.wrap ((x : Int) + (y : Int)) = (p : Int) := by
  rw [IntKind.wrap_u64, h]; omega

/-- The quotient and the rest of the whole, of those of the halves. -/
theorem whole (y1 un32 un1 un0 N y s : Nat) (hy1 : y1 = y * 2 ^ s) (hp : 0 < y1) (hU : (un32 * 4294967296 + un1) * 4294967296 + un0 = N * 2 ^ s) :
    ((un32 * 4294967296 + un1) / y1) * 4294967296 + ((un32 * 4294967296 + un1) % y1 * 4294967296 + un0) / y1 = N / y ∧ ((un32 * 4294967296 + un1) % y1 * 4294967296 + un0) % y1 / 2 ^ s = N % y := by
  obtain ⟨u, hu⟩ : ∃ u, u = un32 * 4294967296 + un1 := ⟨_, rfl⟩
  rw [← hu] at hU ⊢
  have d1 := Nat.div_add_mod u y1
  obtain ⟨v, hv⟩ : ∃ v, v = u % y1 * 4294967296 + un0 := ⟨_, rfl⟩
  rw [← hv]
  have d2 := Nat.div_add_mod v y1
  have hm := Nat.mod_lt v hp
  have key : N * 2 ^ s = y1 * (u / y1 * 4294967296 + v / y1) + v % y1 := by
    rw [Nat.mul_add, ← Nat.mul_assoc]
    generalize hA : y1 * (u / y1) = A at *
    generalize hC : y1 * (v / y1) = C at *
    omega
  have q1 : N * 2 ^ s / y1 = u / y1 * 4294967296 + v / y1 := by
    rw [key, Nat.mul_add_div hp, Nat.div_eq_of_lt hm, Nat.add_zero]
  have q2 : N * 2 ^ s % y1 = v % y1 := by
    rw [key, Nat.mul_add_mod, Nat.mod_eq_of_lt hm]
  have hs : 0 < 2 ^ s := Nat.pow_pos (by decide)
  rw [hy1, Nat.mul_div_mul_right _ _ hs] at q1
  rw [hy1, Nat.mul_mod_mul_right] at q2
  refine ⟨by rw [hy1]; exact q1.symm, ?_⟩
  rw [hy1, ← q2, Nat.mul_div_cancel _ hs]

/-- The number, shifted, in limbs. -/
theorem shifted (hi lo y s : Nat) (hs : s ≤ 63) (hlo : lo < 18446744073709551616) (hhi : hi < y) (hy1 : y * 2 ^ s < 18446744073709551616) :
    hi * 2 ^ s + lo / 2 ^ (64 - s) < y * 2 ^ s ∧ (hi * 2 ^ s + lo / 2 ^ (64 - s)) * 18446744073709551616 + lo * 2 ^ s % 18446744073709551616 = (hi * 18446744073709551616 + lo) * 2 ^ s ∧
      (hi * 2 ^ s % 18446744073709551616 ||| lo / 2 ^ (64 - s)) = hi * 2 ^ s + lo / 2 ^ (64 - s) := by
  have hp : 0 < 2 ^ s := Nat.pow_pos (by decide)
  have e64 : 2 ^ (64 - s) * 2 ^ s = 18446744073709551616 := by rw [← Nat.pow_add, show 64 - s + s = 64 by omega]
  have hl : lo / 2 ^ (64 - s) < 2 ^ s := by
    rw [Nat.div_lt_iff_lt_mul (Nat.pow_pos (by decide)), Nat.mul_comm, e64]; exact hlo
  have h1 : (hi + 1) * 2 ^ s ≤ y * 2 ^ s := Nat.mul_le_mul_right _ hhi
  rw [Nat.succ_mul] at h1
  have e2 : lo * 2 ^ s / 18446744073709551616 = lo / 2 ^ (64 - s) := by rw [← e64, Nat.mul_div_mul_right _ _ hp]
  have d := Nat.div_add_mod (lo * 2 ^ s) 18446744073709551616
  rw [e2] at d
  refine ⟨by omega, ?_, ?_⟩
  · rw [Nat.add_mul, Nat.add_mul]
    have : hi * 18446744073709551616 * 2 ^ s = hi * 2 ^ s * 18446744073709551616 := by rw [Nat.mul_assoc, Nat.mul_comm 18446744073709551616, ← Nat.mul_assoc]
    omega
  · rw [Nat.mod_eq_of_lt (by omega), Nat.mul_comm hi, ← Nat.two_pow_add_eq_or_of_lt hl]

/-- The divisor, its top bit set. -/
theorem normed (y : Nat) (h0 : y ≠ 0) (h : y < 18446744073709551616) : 9223372036854775808 ≤ y * 2 ^ (64 - Lib.bitLen y) ∧ y * 2 ^ (64 - Lib.bitLen y) < 18446744073709551616 := by
  obtain ⟨h1, h2, h3⟩ := Lib.bitLenAux_bounds 64 y h h0
  have hL := bitLen_le64 y h
  obtain ⟨l, hl⟩ : ∃ l, Lib.bitLen y = l + 1 := ⟨Lib.bitLen y - 1, by have : 1 ≤ Lib.bitLen y := h1; omega⟩
  have hl' : Lib.bitLenAux 64 y = l + 1 := hl
  rw [hl'] at h2 h3
  rw [hl]
  rw [Nat.add_sub_cancel] at h2
  have hp : 0 < 2 ^ (64 - (l + 1)) := Nat.pow_pos (by decide)
  constructor
  · have := Nat.mul_le_mul_right (2 ^ (64 - (l + 1))) h2
    rw [← Nat.pow_add, show l + (64 - (l + 1)) = 63 by omega] at this
    exact this
  · have := Nat.mul_lt_mul_of_pos_right h3 hp
    rw [← Nat.pow_add, show l + 1 + (64 - (l + 1)) = 64 by omega] at this
    exact this

theorem norm_of (y1 : Nat) (h1 : 9223372036854775808 ≤ y1) (h2 : y1 < 18446744073709551616) : Norm y1 (y1 / 4294967296) (y1 % 4294967296) := ⟨by omega, by omega, by omega, by omega⟩

end Go.Proofs.Ytdgklodhgbbdjaa
