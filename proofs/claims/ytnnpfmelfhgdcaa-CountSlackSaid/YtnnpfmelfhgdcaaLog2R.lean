/- Walks over the reference of layer 16. -/
import Derived.Test.YtnnpfmelfhgdcaaRows
import Derived.Test.YtnnpfmelfhgdcaaLog2P
import Derived.WalkKit
import Derived.WalkSpells
import Derived.WalkLawsBesides
import Derived.Laws.Bits64b
import Derived.Lib.Hide
namespace Go.Proofs.Ytnnpfmelfhgdcaa
set_option linter.unusedVariables false
open Go.RowKit

theorem rs_mul (y q : Nat) : y * q = 2 * (y * (q / 2)) + (if q % 2 = 1 then y else 0) := by
  have e : q = 2 * (q / 2) + q % 2 := by omega
  have : y * q = y * (2 * (q / 2) + q % 2) := by rw [← e]
  rw [this, Nat.mul_add, show y * (2 * (q / 2)) = 2 * (y * (q / 2)) from by rw [Nat.mul_left_comm]]
  by_cases h : q % 2 = 1
  · rw [if_pos h, h, Nat.mul_one]
  · rw [if_neg h, show q % 2 = 0 from by omega, Nat.mul_zero]

theorem rs_le (y q : Nat) (hy : y < 18446744073709551616) (hq : q ≤ y) : y * q ≤ 340282366920938463426481119284349108225 := by
  have := Nat.mul_le_mul (Nat.le_of_lt_succ hy) (Nat.le_trans hq (Nat.le_of_lt_succ hy))
  omega

theorem rs_test (y k : Nat) (hy : y < 18446744073709551616) : bits BinOp.and IntKind.u64 ((y : Int) / 2 ^ (63 - k)) 1 = ((y / 2 ^ (63 - k) % 2 : Nat) : Int) := by
  have hle : y / 2 ^ (63 - k) ≤ y := Nat.div_le_self _ _
  rw [show ((y : Int) / 2 ^ (63 - k)) = ((y / 2 ^ (63 - k) : Nat) : Int) from by push_cast; rfl]
  have := bits_and_u64_nat (y / 2 ^ (63 - k)) 1 (by omega) (by omega)
  rw [show ((1 : Nat) : Int) = 1 from rfl] at this
  rw [this, Nat.and_one_is_mod]

theorem rs_or (h l : Nat) (hh : h < 9223372036854775808) (hl : l < 18446744073709551616) :
    bits BinOp.or IntKind.u64 (IntKind.u64.wrap ((h : Int) * 2)) ((l : Int) / 9223372036854775808) = ((h * 2 + l / 9223372036854775808 : Nat) : Int) := by
  rw [show IntKind.u64.wrap ((h : Int) * 2) = ((h * 2 : Nat) : Int) from by rw [IntKind.wrap_u64]; omega,
    show ((l : Int) / 9223372036854775808) = ((l / 9223372036854775808 : Nat) : Int) from by omega,
    bits_or_u64_nat _ _ (by omega) (by omega)]
  have e : h * 2 ||| l / 9223372036854775808 = h * 2 + l / 9223372036854775808 := by
    rw [show h * 2 = 2 ^ 1 * h from by omega]
    exact (Nat.two_pow_add_eq_or_of_lt (by omega) _).symm
  rw [e]

/-- The square's halves behind k bits. -/
def Sq (y k h l : Nat) : Prop := h < 18446744073709551616 ∧ l < 18446744073709551616 ∧ h * 18446744073709551616 + l = y * (y / 2 ^ (64 - k))

theorem Sq.mk' {y k h l : Nat} (h1 : h < 18446744073709551616) (h2 : l < 18446744073709551616) (h3 : y * (y / 2 ^ (64 - k)) = h * 18446744073709551616 + l) : Sq y k h l := ⟨h1, h2, h3.symm⟩

theorem sq_next (y k h l : Nat) (hk : k < 64) (hy : y < 18446744073709551616) (hs : Sq y k h l) :
    ∃ t, t = h * 18446744073709551616 + l ∧ t = y * (y / 2 ^ (63 - k) / 2) ∧ y * (y / 2 ^ (64 - (k + 1))) = 2 * t + (if y / 2 ^ (63 - k) % 2 = 1 then y else 0) ∧
      2 * t + (if y / 2 ^ (63 - k) % 2 = 1 then y else 0) ≤ 340282366920938463426481119284349108225 := by
  obtain ⟨h1, h2, h3⟩ := hs
  have e : y / 2 ^ (64 - k) = y / 2 ^ (63 - k) / 2 := by rw [Nat.div_div_eq_div_mul, ← Nat.pow_succ]; congr 2; omega
  have e2 : 64 - (k + 1) = 63 - k := by omega
  have hm := rs_mul y (y / 2 ^ (63 - k))
  have hl := rs_le y (y / 2 ^ (63 - k)) hy (Nat.div_le_self _ _)
  rw [e] at h3
  exact ⟨_, rfl, h3, by rw [e2, h3]; exact hm, by rw [h3, ← hm]; exact hl⟩

theorem sq_carry (y k h l : Nat) (hk : k < 64) (hy : y < 18446744073709551616) (hs : Sq y k h l) (hb : y / 2 ^ (63 - k) % 2 = 1)
    (hc : IntKind.u64.wrap (IntKind.u64.wrap ((l : Int) * 2) + (y : Int)) < IntKind.u64.wrap ((l : Int) * 2)) :
    ∃ h' l' : Nat, IntKind.u64.wrap (bits BinOp.or IntKind.u64 (IntKind.u64.wrap ((h : Int) * 2)) ((l : Int) / 9223372036854775808) + 1) = (h' : Int) ∧
      IntKind.u64.wrap (IntKind.u64.wrap ((l : Int) * 2) + (y : Int)) = (l' : Int) ∧ Sq y (k + 1) h' l' := by
  obtain ⟨t, ht, _, he, hle⟩ := sq_next y k h l hk hy hs
  obtain ⟨h1, h2, h3⟩ := hs
  rw [if_pos hb] at he hle
  rw [rs_or h l (by omega) h2]
  simp only [IntKind.wrap_u64] at *
  exact ⟨h * 2 + l / 9223372036854775808 + 1, (l * 2 % 18446744073709551616 + y) % 18446744073709551616, by omega, by omega, Sq.mk' (by omega) (by omega) (he.trans (by omega))⟩

theorem sq_bit (y k h l : Nat) (hk : k < 64) (hy : y < 18446744073709551616) (hs : Sq y k h l) (hb : y / 2 ^ (63 - k) % 2 = 1)
    (hc : IntKind.u64.wrap ((l : Int) * 2) ≤ IntKind.u64.wrap (IntKind.u64.wrap ((l : Int) * 2) + (y : Int))) :
    ∃ h' l' : Nat, bits BinOp.or IntKind.u64 (IntKind.u64.wrap ((h : Int) * 2)) ((l : Int) / 9223372036854775808) = (h' : Int) ∧
      IntKind.u64.wrap (IntKind.u64.wrap ((l : Int) * 2) + (y : Int)) = (l' : Int) ∧ Sq y (k + 1) h' l' := by
  obtain ⟨t, ht, _, he, hle⟩ := sq_next y k h l hk hy hs
  obtain ⟨h1, h2, h3⟩ := hs
  rw [if_pos hb] at he hle
  rw [rs_or h l (by omega) h2]
  simp only [IntKind.wrap_u64] at *
  exact ⟨h * 2 + l / 9223372036854775808, (l * 2 % 18446744073709551616 + y) % 18446744073709551616, by omega, by omega, Sq.mk' (by omega) (by omega) (he.trans (by omega))⟩

theorem sq_none (y k h l : Nat) (hk : k < 64) (hy : y < 18446744073709551616) (hs : Sq y k h l) (hb : ¬ y / 2 ^ (63 - k) % 2 = 1) :
    ∃ h' l' : Nat, bits BinOp.or IntKind.u64 (IntKind.u64.wrap ((h : Int) * 2)) ((l : Int) / 9223372036854775808) = (h' : Int) ∧
      IntKind.u64.wrap ((l : Int) * 2) = (l' : Int) ∧ Sq y (k + 1) h' l' := by
  obtain ⟨t, ht, _, he, hle⟩ := sq_next y k h l hk hy hs
  obtain ⟨h1, h2, h3⟩ := hs
  rw [if_neg hb] at he hle
  rw [rs_or h l (by omega) h2]
  simp only [IntKind.wrap_u64] at *
  exact ⟨h * 2 + l / 9223372036854775808, (l * 2 % 18446744073709551616), by omega, by omega, Sq.mk' (by omega) (by omega) (he.trans (by omega))⟩

theorem ret_uuR {a b c d : Int} (h1 : a = b) (h2 : c = d) : Ending.returned (.tuple #[.int .u64 a, .int .u64 c]) = .returned (.tuple #[.int .u64 b, .int .u64 d]) := by rw [h1, h2]

set_option maxHeartbeats 400000 in
theorem rsquare_any (y : Nat) (hy : y < 18446744073709551616) (w : World) :
    Calls Try.prog 39 #[.int .u64 y] w fun e w' =>
      e = .returned (.tuple #[.int .u64 (y * y / 18446744073709551616 : Nat), .int .u64 (y * y % 18446744073709551616 : Nat)]) ∧ w = w' := by
  go_enter Try.func39, Try.ntmps39
  go_wp2
  go_loop [4, 5, 6] (fun h l i => ∃ k hh ll : Nat, k ≤ 64 ∧ i = .int .i64 k ∧ h = .int .u64 hh ∧ l = .int .u64 ll ∧ Sq y k hh ll) (fun _ _ i => 64 - (intOf i).toNat)
  case atStart => exact ⟨0, 0, 0, by omega, rfl, rfl, rfl, by omega, by omega, by simp [Nat.div_eq_of_lt hy]⟩
  case round =>
    obtain ⟨k, hh, ll, hk, rfl, rfl, rfl, hs⟩ := hrel
    by_cases hlt : k < 64
    · have ht := rs_test y k hy
      by_cases hb : y / 2 ^ (63 - k) % 2 = 1
      · have hT : (bits BinOp.and IntKind.u64 ((y : Int) / 2 ^ (63 - k)) 1 == 1) = true := by rw [ht, hb]; rfl
        have HB := Lib.hid hb
        clear ht hb
        go_wp2
        · obtain ⟨h', l', e1, e2, hs'⟩ := sq_carry y k hh ll hlt hy hs HB.out (by assumption)
          rw [e1, e2]
          go_round
          case rel => exact ⟨k + 1, h', l', by omega, by go_num, rfl, rfl, hs'⟩
          case measure => simp [intOf]; omega
        · obtain ⟨h', l', e1, e2, hs'⟩ := sq_bit y k hh ll hlt hy hs HB.out (by assumption)
          rw [e1, e2]
          go_round
          case rel => exact ⟨k + 1, h', l', by omega, by go_num, rfl, rfl, hs'⟩
          case measure => simp [intOf]; omega
      · have hT : (bits BinOp.and IntKind.u64 ((y : Int) / 2 ^ (63 - k)) 1 == 1) = false := by rw [ht, show y / 2 ^ (63 - k) % 2 = 0 from by omega]; rfl
        have HB := Lib.hid hb
        clear ht hb
        go_wp2
        obtain ⟨h', l', e1, e2, hs'⟩ := sq_none y k hh ll hlt hy hs HB.out
        rw [e1, e2]
        go_round
        case rel => exact ⟨k + 1, h', l', by omega, by go_num, rfl, rfl, hs'⟩
        case measure => simp [intOf]; omega
    · obtain rfl : k = 64 := by omega
      obtain ⟨h1, h2, h3⟩ := hs
      have H3 := Lib.hid h3
      clear h3
      go_wp2
      go_ret2
      have h3 := H3.out
      simp only [Nat.sub_self, Nat.pow_zero, Nat.div_one] at h3
      exact ⟨ret_uuR (by omega) (by omega), rfl⟩
end Go.Proofs.Ytnnpfmelfhgdcaa
