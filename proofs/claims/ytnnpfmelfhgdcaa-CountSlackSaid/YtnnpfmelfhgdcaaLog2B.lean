/- Walks over package log2: one digit; the maker of the iterator. -/
import Derived.Test.YtnnpfmelfhgdcaaRows
import Derived.Test.YtnnpfmelfhgdcaaLog2A
import Derived.Test.YtnnpfmelfhgdcaaShelf
import Derived.WalkKit
import Derived.WalkSpells
import Derived.WalkLawsBesides
import Derived.Laws.EntriesVeiled
namespace Go.Proofs.Ytnnpfmelfhgdcaa
set_option linter.unusedVariables false
open Go.RowKit

def Halve (up : Bool) : Nat := if up then 31 else 32

/-- What the halving of a square comes to, at 63: no digit. -/
theorem halve0 (up : Bool) (y : Nat) (w : World) (hy : L2.Mant y) (h0 : (L2.step up y).1 = 0) :
    Calls Try.prog (Halve up) #[.int .u64 (y * y / 18446744073709551616 : Nat), .int .u64 (y * y % 18446744073709551616 : Nat), .int .u64 63] w fun e w' =>
      e = .returned (.tuple #[.int .u64 (L2.step up y).2, .bool false]) ∧ w = w' := by
  have hb := L2.sq_bounds y hy
  revert h0
  unfold L2.step Halve
  generalize y * y = z at *
  cases up
  · simp only [Bool.false_eq_true, if_false]
    split
    · intro _
      refine (down63 _ _ w (by omega) (by omega)).mono fun e w' ⟨he, hw⟩ => ⟨he.trans (ret_ub (by omega) (by simp; omega)), hw⟩
    · intro h; simp at h
  · simp only [if_true]
    split
    · intro _
      by_cases hl : z % 18446744073709551616 % 9223372036854775808 = 0
      · refine (up63z _ _ w (by omega) (by omega) hl).mono fun e w' ⟨he, hw⟩ => ⟨he.trans (ret_ub (by omega) (by simp; omega)), hw⟩
      · refine (up63n _ _ w (by omega) (by omega) (by omega)).mono fun e w' ⟨he, hw⟩ => ⟨he.trans (ret_ub (by omega) (by simp; omega)), hw⟩
    · intro h; simp at h

/-- A digit: it runs over. -/
theorem halve1 (up : Bool) (y : Nat) (w : World) (hy : L2.Mant y) (h0 : (L2.step up y).1 = 1) :
    Calls Try.prog (Halve up) #[.int .u64 (y * y / 18446744073709551616 : Nat), .int .u64 (y * y % 18446744073709551616 : Nat), .int .u64 63] w fun e w' =>
      (∃ m : Int, e = .returned (.tuple #[.int .u64 m, .bool true])) ∧ w = w' := by
  have hb := L2.sq_bounds y hy
  revert h0
  unfold L2.step Halve
  generalize y * y = z at *
  cases up
  · simp only [Bool.false_eq_true, if_false]
    split
    · intro h; simp at h
    · intro _
      refine (down63 _ _ w (by omega) (by omega)).mono fun e w' ⟨he, hw⟩ => ⟨⟨_, he.trans (ret_ub rfl (by simp; omega))⟩, hw⟩
  · simp only [if_true]
    split
    · intro h; simp at h
    · intro _
      by_cases hl : z % 18446744073709551616 % 9223372036854775808 = 0
      · refine (up63z _ _ w (by omega) (by omega) hl).mono fun e w' ⟨he, hw⟩ => ⟨⟨_, he.trans (ret_ub rfl (by simp; omega))⟩, hw⟩
      · refine (up63n _ _ w (by omega) (by omega) (by omega)).mono fun e w' ⟨he, hw⟩ => ⟨⟨_, he.trans (ret_ub rfl (by simp; omega))⟩, hw⟩

/-- And at 64, behind it. -/
theorem halve2 (up : Bool) (y : Nat) (w : World) (hy : L2.Mant y) (h0 : (L2.step up y).1 = 1) :
    Calls Try.prog (Halve up) #[.int .u64 (y * y / 18446744073709551616 : Nat), .int .u64 (y * y % 18446744073709551616 : Nat), .int .u64 64] w fun e w' =>
      e = .returned (.tuple #[.int .u64 (L2.step up y).2, .bool false]) ∧ w = w' := by
  have hb := L2.sq_bounds y hy
  revert h0
  unfold L2.step Halve
  generalize y * y = z at *
  cases up
  · simp only [Bool.false_eq_true, if_false]
    split
    · intro h; simp at h
    · intro _
      refine (down64 _ _ w).mono fun e w' ⟨he, hw⟩ => ⟨he, hw⟩
  · simp only [if_true]
    split
    · intro h; simp at h
    · intro _
      by_cases hl : z % 18446744073709551616 = 0
      · rw [hl]
        refine (up64z _ w).mono fun e w' ⟨he, hw⟩ => ⟨he.trans (ret_ub (by omega) rfl), hw⟩
      · refine (up64n _ _ w (by omega) (by omega)).mono fun e w' ⟨he, hw⟩ => ⟨he.trans (ret_ub (by omega) rfl), hw⟩

theorem ret_uu {a b c d : Int} (h1 : a = b) (h2 : c = d) : Ending.returned (.tuple #[.int .u64 a, .int .u64 c]) = .returned (.tuple #[.int .u64 b, .int .u64 d]) := by rw [h1, h2]

set_option maxHeartbeats 400000 in
theorem digit_any (up : Bool) (y : Nat) (b : Nat) (w : World) (hy : L2.Mant y) (hc : w.cell? ⟨b, 0, none⟩ = some (.func (.func (Halve up)) #[] #[])) :
    Calls Try.prog 41 #[.int .u64 y, .pointer (some ⟨b, 0, none⟩)] w fun e w' =>
      e = .returned (.tuple #[.int .u64 (L2.step up y).1, .int .u64 (L2.step up y).2]) ∧ w = w' := by
  have hlt : y < 18446744073709551616 := hy.2
  have hs := (L2.step_mant up y hy).2
  have M := Try.bits_Mul64 y y hlt hlt
  have H0 := Lib.hid (fun w => halve0 up y w hy)
  have H1 := Lib.hid (fun w => halve1 up y w hy)
  have H2 := Lib.hid (fun w => halve2 up y w hy)
  clear hy
  generalize y * y / 18446744073709551616 = zh at *
  generalize y * y % 18446744073709551616 = zl at *
  generalize L2.step up y = st at *
  obtain ⟨s1, s2⟩ := st
  dsimp only at *
  have MM := Lib.hid M
  clear M
  have hs' : s1 = 0 ∨ s1 = 1 := by omega
  clear hs
  rcases hs' with rfl | rfl
  · cases up
    all_goals
      go_enter Try.func41, Try.ntmps41
      go_wp2_with fail
      refine (MM.out _).mono ?_
      rintro e w' ⟨rfl, rfl⟩
      go_wp2_with fail
      refine (H0.out _ (by trivial)).mono ?_
      rintro e w' ⟨rfl, rfl⟩
      go_wp2
      go_ret2
      exact ⟨rfl, rfl⟩
  · cases up
    all_goals
      go_enter Try.func41, Try.ntmps41
      go_wp2_with fail
      refine (MM.out _).mono ?_
      rintro e w' ⟨rfl, rfl⟩
      go_wp2_with fail
      refine (H1.out _ (by trivial)).mono ?_
      rintro e w' ⟨⟨m, rfl⟩, rfl⟩
      go_wp2_with fail
      refine (H2.out _ (by trivial)).mono ?_
      rintro e w' ⟨rfl, rfl⟩
      go_wp2
      go_ret2
      exact ⟨rfl, rfl⟩

set_option maxHeartbeats 400000 in
theorem digits_any (y : Nat) (h : Nat) (w : World) :
    Calls Try.prog 37 #[.int .u64 y, .func (.func h) #[] #[]] w fun e w' =>
      e = .returned (.func (.func 42) #[] #[.pointer (some ⟨w.heap.size + 1 + 1, 0, none⟩), .pointer (some ⟨w.heap.size, 0, none⟩)]) ∧
      ((w.alloc (.cells #[.int .u64 y] 22)).alloc (.cells #[.func (.func h) #[] #[]] 57)).alloc (.cells #[.func (.func 41) #[] #[.pointer (some ⟨w.heap.size + 1, 0, none⟩)]] 64) = w' := by
  go_enter Try.func37, Try.ntmps37
  go_wp2
  go_ret
  exact ⟨rfl, rfl⟩

end Go.Proofs.Ytnnpfmelfhgdcaa
