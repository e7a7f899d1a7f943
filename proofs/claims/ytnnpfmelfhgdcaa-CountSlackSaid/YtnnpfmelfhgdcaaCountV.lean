/- Walk: power. -/
import Derived.Test.YtnnpfmelfhgdcaaCountU
namespace Go.Proofs.Ytnnpfmelfhgdcaa
set_option linter.unusedVariables false
open Go.RowKit Go.Shelf

set_option maxRecDepth 100000 in
set_option maxHeartbeats 1000000 in
theorem power_any (x n k : Nat) (w : World) (hx : x < 18446744073709551616) (hn : n ≤ 10000) (hk : k ≤ 10000) :
    Calls Try.prog 18 #[.int .u64 x, .int .i64 n, .int .u64 k] w fun e w' => ∃ (v' : Value) (m' : Nat), e = .returned v' ∧ m' ≤ 100000 ∧ Num w' v' (x ^ n * 2 ^ k) m' ∧ Below w.heap.size w w' := by
  have A0 := Shut.mk (show Below w.heap.size w (w.alloc (.cells #[.int .u32 1] 37)) from (Below.refl w.heap.size w).alloc (Nat.le_refl _) _)
  have N0 : Shut (Num (w.alloc (.cells #[.int .u32 1] 37)) (.slice (some ⟨w.heap.size, 0, none⟩) 1 1) 1 1) :=
    ⟨w.heap.size, 1, [1], rfl, Laid.new w _ _, rfl, Nat.le_refl _, Nat.le_refl _, fun j => by
      rcases j with _ | j
      · decide
      · simp, by simp [Dg.V], fun h => by omega⟩
  have T := Shut.mk times_any
  go_enter Try.func18, Try.ntmps18
  go_wp2_with fail
  go_loopw [7, 8] (fun vv ii wr => ∃ (i m : Nat), i ≤ n ∧ ii = .int .i64 i ∧ m ≤ 1 + 2 * i ∧ Num wr vv (x ^ i) m ∧ Below w.heap.size w wr) (fun _ ii _ => n - (intOf ii).toNat)
  case atStart => exact ⟨0, 1, by omega, rfl, by omega, N0.out, A0.out⟩
  case round =>
    obtain ⟨i, m, hi, rfl, hm, hN, hbw⟩ := hrel
    by_cases h : i < n
    · have h2 : (i : Int) < (n : Int) := by omega
      have T' := Shut.mk (T.out _ _ _ _ _ hN hx (by omega))
      clear hN
      go_wp2_with fail
      refine (T'.out).mono ?_
      rintro e w1 ⟨v', m', rfl, hm', hN', hb1⟩
      go_wp2_with fail
      go_roundw
      case rel => exact ⟨i + 1, m', by omega, by go_num, by omega, hN', below3 hbw hb1⟩
      case measure => simp [intOf]; omega
    · obtain rfl : i = n := by omega
      have hN2 := Shut.mk hN
      clear hN
      go_wp2_with fail
      go_loopw [7, 9] (fun vv jj wr => ∃ (j m : Nat), j ≤ k ∧ jj = .int .u64 j ∧ m ≤ 1 + 2 * i + 2 * j ∧ Num wr vv (x ^ i * 2 ^ j) m ∧ Below w.heap.size w wr) (fun _ jj _ => k - (intOf jj).toNat)
      case atStart => exact ⟨0, m, by omega, rfl, by omega, by rw [Nat.pow_zero, Nat.mul_one]; exact hN2.out, hbw⟩
      case round =>
        obtain ⟨j, m, hj, rfl, hm, hN, hbw⟩ := hrel
        by_cases h : j < k
        · have h2 : (j : Int) < (k : Int) := by omega
          have T' := Shut.mk (T.out _ _ _ 2 _ hN (by decide) (by omega))
          clear hN
          go_wp2_with fail
          refine (T'.out).mono ?_
          rintro e w1 ⟨v', m', rfl, hm', hN', hb1⟩
          go_wp2_with fail
          go_roundw
          case rel => exact ⟨j + 1, m', by omega, by go_num, by omega, by rw [Nat.pow_succ 2 j, ← Nat.mul_assoc]; exact hN', below3 hbw hb1⟩
          case measure => simp [intOf]; omega
        · obtain rfl : j = k := by omega
          have hN2 := Shut.mk hN
          clear hN
          go_wp2_with fail
          go_ret
          exact ⟨_, m, rfl, by omega, hN2.out, hbw⟩

end Go.Proofs.Ytnnpfmelfhgdcaa
