/- Walks over package log2: down, up, one digit. -/
import Derived.Test.YtnnpfmelfhgdcaaRows
import Derived.Test.YtnnpfmelfhgdcaaLog2P
import Derived.WalkKit
import Derived.WalkSpells
import Derived.WalkLawsBesides
import Derived.Laws.Bits64b
import Derived.Lib.Hide
namespace Go.Proofs.Ytnnpfmelfhgdcaa
set_option linter.unusedVariables false
open Go.RowKit

theorem or_low (h l : Nat) (hl : l < 18446744073709551616) :
    bits BinOp.or IntKind.u64 (IntKind.u64.wrap ((h : Int) * 2)) ((l : Int) / 9223372036854775808) = ((h * 2 % 18446744073709551616 + l / 9223372036854775808 : Nat) : Int) := by
  rw [show IntKind.u64.wrap ((h : Int) * 2) = ((h * 2 % 18446744073709551616 : Nat) : Int) from by rw [IntKind.wrap_u64]; omega,
    show ((l : Int) / 9223372036854775808) = ((l / 9223372036854775808 : Nat) : Int) from by omega,
    bits_or_u64_nat _ _ (by omega) (by omega)]
  have e : h * 2 % 18446744073709551616 ||| l / 9223372036854775808 = h * 2 % 18446744073709551616 + l / 9223372036854775808 := by
    rw [show h * 2 % 18446744073709551616 = 2 ^ 1 * (h % 9223372036854775808) from by omega]
    exact (Nat.two_pow_add_eq_or_of_lt (by omega) _).symm
  rw [e]

set_option maxHeartbeats 400000 in
theorem down63 (h l : Nat) (w : World) (hh : h < 18446744073709551616) (hl : l < 18446744073709551616) :
    Calls Try.prog 32 #[.int .u64 h, .int .u64 l, .int .u64 63] w fun e w' =>
      e = .returned (.tuple #[.int .u64 ((h * 2 % 18446744073709551616 + l / 9223372036854775808 : Nat) : Int), .bool (decide (9223372036854775808 ≤ h))]) ∧ w = w' := by
  go_enter Try.func32, Try.ntmps32
  go_wp2
  rw [or_low h l hl]
  go_ret2
  refine ⟨?_, rfl⟩
  rw [show ((h : Int) / 9223372036854775808 == 1) = decide (9223372036854775808 ≤ h) from by rw [Bool.eq_iff_iff]; simp; omega]
  rfl

set_option maxHeartbeats 400000 in
theorem down64 (h l : Nat) (w : World) :
    Calls Try.prog 32 #[.int .u64 h, .int .u64 l, .int .u64 64] w fun e w' =>
      e = .returned (.tuple #[.int .u64 h, .bool false]) ∧ w = w' := by
  go_enter Try.func32, Try.ntmps32
  go_wp2
  go_ret2
  exact ⟨rfl, rfl⟩

theorem add64 (x y c : Int) (hx : 0 ≤ x) (hy : 0 ≤ y) (hc0 : 0 ≤ c) (hc : c ≤ 1) (w : World) :
    (callFunc 38 #[.int .u64 x, .int .u64 y, .int .u64 c]).run Try.prog w =
      .ok (.value (.tuple #[.int .u64 ((x + y + c) % 18446744073709551616), .int .u64 ((x + y + c) / 18446744073709551616)])) w := by
  rw [run_callFunc_extern Try.func38 (by kernel_rfl) (by kernel_rfl) (by kernel_rfl) (e := add64Entry) (by kernel_rfl), run_add64 x y c hx hy hc0 hc]
  rfl

theorem up64z (h : Nat) (w : World) :
    Calls Try.prog 31 #[.int .u64 h, .int .u64 0, .int .u64 64] w fun e w' =>
      e = .returned (.tuple #[.int .u64 h, .bool false]) ∧ w = w' := by
  go_enter Try.func31, Try.ntmps31
  go_wp2_with (go_at_call 32; refine (down64 _ 0 _).mono ?_; rintro e w' ⟨rfl, rfl⟩)
  go_ret2
  exact ⟨rfl, rfl⟩

theorem ret_ub {a b : Int} {p q : Bool} (h1 : a = b) (h2 : p = q) : Ending.returned (.tuple #[.int .u64 a, .bool p]) = .returned (.tuple #[.int .u64 b, .bool q]) := by rw [h1, h2]

theorem up64n (h l : Nat) (w : World) (hh : h < 18446744073709551615) (h0 : 0 < l) :
    Calls Try.prog 31 #[.int .u64 h, .int .u64 l, .int .u64 64] w fun e w' =>
      e = .returned (.tuple #[.int .u64 ((h + 1 : Nat) : Int), .bool false]) ∧ w = w' := by
  have ha := fun w => add64 h 1 0 (by omega) (by omega) (by omega) (by omega) w
  have e0 : ((l : Int) == 0) = false := by simp; omega
  go_enter Try.func31, Try.ntmps31
  go_wp2_with (go_at_call 32; refine (down64 _ l _).mono ?_; rintro e w' ⟨rfl, rfl⟩)
  go_ret2
  exact ⟨ret_ub (by omega) (by simp; omega), rfl⟩

theorem up63z (h l : Nat) (w : World) (hh : h < 18446744073709551616) (hl : l < 18446744073709551616) (h0 : l % 9223372036854775808 = 0) :
    Calls Try.prog 31 #[.int .u64 h, .int .u64 l, .int .u64 63] w fun e w' =>
      e = .returned (.tuple #[.int .u64 ((h * 2 % 18446744073709551616 + l / 9223372036854775808 : Nat) : Int), .bool (decide (9223372036854775808 ≤ h))]) ∧ w = w' := by
  have e0 : (IntKind.u64.wrap ((l : Int) * 2) == 0) = true := by rw [IntKind.wrap_u64]; simp; omega
  obtain ⟨m, hm⟩ : ∃ m, m = h * 2 % 18446744073709551616 + l / 9223372036854775808 := ⟨_, rfl⟩
  obtain ⟨b, hb⟩ : ∃ b, b = decide (9223372036854775808 ≤ h) := ⟨_, rfl⟩
  have c := down63 h l w hh hl
  rw [← hm, ← hb] at c ⊢
  clear hm hb hh hl h0
  have C := Lib.hid c
  clear c
  go_enter Try.func31, Try.ntmps31
  go_wp2_with (go_at_call 32; refine C.out.mono ?_; rintro e w' ⟨rfl, rfl⟩)
  go_ret2
  exact ⟨rfl, rfl⟩

theorem up63n (h l : Nat) (w : World) (hh : h < 18446744073709551616) (hl : l < 18446744073709551616) (h0 : 0 < l % 9223372036854775808) :
    Calls Try.prog 31 #[.int .u64 h, .int .u64 l, .int .u64 63] w fun e w' =>
      e = .returned (.tuple #[.int .u64 (((h * 2 % 18446744073709551616 + l / 9223372036854775808 + 1) % 18446744073709551616 : Nat) : Int),
        .bool (decide (9223372036854775808 ≤ h) || decide (18446744073709551615 ≤ h * 2 % 18446744073709551616 + l / 9223372036854775808))]) ∧ w = w' := by
  have e0 : (IntKind.u64.wrap ((l : Int) * 2) == 0) = false := by rw [IntKind.wrap_u64]; simp; omega
  obtain ⟨m, hm⟩ : ∃ m, m = h * 2 % 18446744073709551616 + l / 9223372036854775808 := ⟨_, rfl⟩
  obtain ⟨b, hb⟩ : ∃ b, b = decide (9223372036854775808 ≤ h) := ⟨_, rfl⟩
  have c := down63 h l w hh hl
  rw [← hm, ← hb] at c ⊢
  have hm' : m < 18446744073709551616 := by omega
  clear hm hb hh hl h0
  have C := Lib.hid c
  clear c
  have ha := fun w => add64 m 1 0 (by omega) (by omega) (by omega) (by omega) w
  cases b
  · go_enter Try.func31, Try.ntmps31
    go_wp2_with (go_at_call 32; refine C.out.mono ?_; rintro e w' ⟨rfl, rfl⟩)
    go_ret2
    refine ⟨ret_ub (by omega) ?_, rfl⟩
    rw [Bool.eq_iff_iff]; simp; omega
  · go_enter Try.func31, Try.ntmps31
    go_wp2_with (go_at_call 32; refine C.out.mono ?_; rintro e w' ⟨rfl, rfl⟩)
    go_ret2
    exact ⟨ret_ub (by omega) rfl, rfl⟩

end Go.Proofs.Ytnnpfmelfhgdcaa
