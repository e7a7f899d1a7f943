/- The logarithms of layer 16, program and reference, at every number. -/
import Derived.Test.YtnnpfmelfhgdcaaLog2C
import Derived.Test.YtnnpfmelfhgdcaaLog2S
namespace Go.Proofs.Ytnnpfmelfhgdcaa
set_option linter.unusedVariables false
open Go.RowKit Go.Shelf

/-- The lower bound. -/
def L2.lo (x : Nat) : Nat := if x = 0 then 0 else L2.out false (x * 2 ^ (63 - x.log2)) x.log2 24
/-- The upper bound. -/
def L2.hi (x : Nat) : Nat := if x = 0 then 0 else L2.out true (x * 2 ^ (63 - x.log2)) x.log2 24 + 1

theorem L2.log2_lt (x : Nat) (h0 : x ≠ 0) (hx : x < 18446744073709551616) : x.log2 < 64 := (Nat.log2_lt h0).2 (by omega)

theorem L2.lo_lt (x : Nat) (hx : x < 18446744073709551616) : L2.lo x < 1073741824 := by
  unfold L2.lo
  split
  · omega
  · rename_i h0
    exact L2.out_small false _ _ (top_mant x x.log2 (L2.log2_lt x h0 hx) (Nat.log2_self_le h0) Nat.lt_log2_self) (L2.log2_lt x h0 hx) 24 (by omega)
theorem L2.hi_le (x : Nat) (hx : x < 18446744073709551616) : L2.hi x ≤ 1073741824 := by
  unfold L2.hi
  split
  · omega
  · rename_i h0
    have := L2.out_small true _ _ (top_mant x x.log2 (L2.log2_lt x h0 hx) (Nat.log2_self_le h0) Nat.lt_log2_self) (L2.log2_lt x h0 hx) 24 (by omega)
    omega

theorem lo_any (x : Nat) (w : World) (hx : x < 18446744073709551616) :
    Calls Try.prog 21 #[.int .u64 x] w fun e w' => e = .returned (.int .u64 (L2.lo x)) ∧ Below w.heap.size w w' := by
  unfold L2.lo
  by_cases h0 : x = 0
  · subst h0; exact lo_zero w
  · rw [if_neg h0]
    exact lo_pos x x.log2 (L2.log2_lt x h0 hx) (Nat.log2_self_le h0) Nat.lt_log2_self w

theorem hi_any (x : Nat) (w : World) (hx : x < 18446744073709551616) :
    Calls Try.prog 20 #[.int .u64 x] w fun e w' => e = .returned (.int .u64 (L2.hi x)) ∧ Below w.heap.size w w' := by
  unfold L2.hi
  by_cases h0 : x = 0
  · subst h0; exact hi_zero w
  · rw [if_neg h0]
    exact hi_pos x x.log2 (L2.log2_lt x h0 hx) (Nat.log2_self_le h0) Nat.lt_log2_self w

theorem rlo_any (x : Nat) (w : World) (hx : x < 18446744073709551616) :
    Calls Try.prog 22 #[.int .u64 x] w fun e w' => e = .returned (.int .u64 (L2.lo x)) ∧ w = w' := by
  unfold L2.lo
  by_cases h0 : x = 0
  · subst h0
    go_enter Try.func22, Try.ntmps22
    go_wp2
    go_ret
    exact ⟨rfl, rfl⟩
  · rw [if_neg h0]
    have hb : ((x : Int) == 0) = false := by simp; omega
    have HC := Lib.hid (rlog_lo x x.log2 (L2.log2_lt x h0 hx) Nat.lt_log2_self (top_mant x x.log2 (L2.log2_lt x h0 hx) (Nat.log2_self_le h0) Nat.lt_log2_self))
    clear h0 hx
    go_enter Try.func22, Try.ntmps22
    go_wp2_with fail
    refine (HC.out _).mono ?_
    rintro e w' ⟨rfl, rfl⟩
    go_wp2
    go_ret
    exact ⟨rfl, rfl⟩

theorem rhi_any (x : Nat) (w : World) (hx : x < 18446744073709551616) :
    Calls Try.prog 23 #[.int .u64 x] w fun e w' => e = .returned (.int .u64 (L2.hi x)) ∧ w = w' := by
  unfold L2.hi
  by_cases h0 : x = 0
  · subst h0
    go_enter Try.func23, Try.ntmps23
    go_wp2
    go_ret
    exact ⟨rfl, rfl⟩
  · rw [if_neg h0]
    have hb : ((x : Int) == 0) = false := by simp; omega
    have hm := top_mant x x.log2 (L2.log2_lt x h0 hx) (Nat.log2_self_le h0) Nat.lt_log2_self
    have HC := Lib.hid (rlog_hi x x.log2 (L2.log2_lt x h0 hx) Nat.lt_log2_self hm)
    have ho := L2.out_small true (x * 2 ^ (63 - x.log2)) x.log2 hm (L2.log2_lt x h0 hx) 24 (by omega)
    clear h0 hx hm
    generalize L2.out true (x * 2 ^ (63 - x.log2)) x.log2 24 = o at *
    go_enter Try.func23, Try.ntmps23
    go_wp2_with fail
    refine (HC.out _).mono ?_
    rintro e w' ⟨rfl, rfl⟩
    go_wp2
    go_ret
    exact ⟨rfl, rfl⟩

end Go.Proofs.Ytnnpfmelfhgdcaa
