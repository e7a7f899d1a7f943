/- The walks of the laws CountPasses and CountLeast. -/
import Derived.Test.YtnnpfmelfhgdcaaCountW
namespace Go.Proofs.Ytnnpfmelfhgdcaa
set_option linter.unusedVariables false
open Go.RowKit Go.Shelf

set_option maxRecDepth 100000 in
set_option maxHeartbeats 1000000 in
theorem cpasses_mid (a b s g : Nat) (n : Int) (r : Bool) (w : World)
    (C1 : Shut (∀ w, Calls Try.prog 10 #[.int .u64 a, .int .u64 b] w fun e w' => e = .returned (.int .u64 g) ∧ Below w.heap.size w w'))
    (C2 : Shut (∀ w, Calls Try.prog 11 #[.int .u64 a, .int .u64 b] w fun e w' => e = .returned (.int .u64 g) ∧ w = w'))
    (C3 : Shut (∀ w, Calls Try.prog 12 #[.int .u64 a, .int .u64 b, .int .u64 s, .int .i64 n] w fun e w' => e = .returned (.bool r) ∧ Below w.heap.size w w'))
    (C4 : Shut (∀ w, Calls Try.prog 13 #[.int .u64 a, .int .u64 b, .int .u64 s, .int .i64 n] w fun e w' => e = .returned (.bool r) ∧ w = w')) :
    Calls Try.prog 3 #[.agg #[.int .u64 a, .int .u64 b], .int .u64 s, .int .i64 n] w fun e w' => e = .returned (.bool true) ∧ Below w.heap.size w w' := by
  have A1 := Shut.mk ((Below.refl w.heap.size w).alloc (Nat.le_refl _) (.cells #[.int .u64 (a : Int), .int .u64 (b : Int)] 23))
  cases r
  all_goals
    go_enter Try.func3, Try.ntmps3
    go_wp2_with fail
    go_quiet (fail)
    go_wp2_with fail
    refine (C1.out _).mono ?_
    rintro e w1 ⟨rfl, hb1⟩
    go_wp2_with fail
    refine (C2.out _).mono ?_
    rintro e w1' ⟨rfl, rfl⟩
    go_wp2_with fail
    refine (C3.out _).mono ?_
    rintro e w2 ⟨rfl, hb2⟩
    go_wp2_with fail
    refine (C4.out _).mono ?_
    rintro e w2' ⟨rfl, rfl⟩
    go_wp2_with fail
    refine (works17_any _).mono ?_
    rintro e w3 ⟨rfl, hb3⟩
    go_wp2_with fail
    go_ret
    exact ⟨rfl, below3 (below3 (below3 (below_drewN A1.out nq) hb1) hb2) hb3⟩

theorem CountPasses_walk (a0 a1 a2 a3 : Int) (w : World) (w0 : (Lit.int .u64 a0).wf = true) (w1 : (Lit.int .u64 a1).wf = true) (w2 : (Lit.int .u64 a2).wf = true) (w3 : (Lit.int .i64 a3).wf = true) :
    Calls Try.prog 3 #[.agg #[.int .u64 a0, .int .u64 a1], .int .u64 a2, .int .i64 a3] w fun e w' => e = .returned (.bool true) ∧ Below w.heap.size w w' := by
  obtain ⟨a, rfl, ha⟩ := nat_of_u64 w0
  obtain ⟨b, rfl, hb⟩ := nat_of_u64 w1
  obtain ⟨s, rfl, hs⟩ := nat_of_u64 w2
  rcases i64_cases w3 with hn | ⟨n, rfl, hn⟩
  · exact cpasses_mid a b s _ a3 false w ⟨fun w => gain_any a b w ha hb⟩ ⟨fun w => rgain_any a b w ha hb⟩ ⟨fun w => passes_neg a b s a3 w hn⟩ ⟨fun w => rpasses_neg a b s a3 w hn⟩
  · exact cpasses_mid a b s _ n _ w ⟨fun w => gain_any a b w ha hb⟩ ⟨fun w => rgain_any a b w ha hb⟩ ⟨fun w => passes_any a b s n w ha hb hs hn⟩ ⟨fun w => rpasses_any a b s n w ha hb hs hn⟩

set_option maxRecDepth 100000 in
set_option maxHeartbeats 1000000 in
theorem cleast_mid (a b s n e0 : Nat) (w : World)
    (C1 : Shut (∀ w, Calls Try.prog 15 #[.int .u64 a, .int .u64 b, .int .u64 s] w fun e w' => e = .returned (.tuple #[.int .i64 n, .int .i64 e0]) ∧ Below w.heap.size w w'))
    (C2 : Shut (∀ w, Calls Try.prog 16 #[.int .u64 a, .int .u64 b, .int .u64 s] w fun e w' => e = .returned (.tuple #[.int .i64 n, .int .i64 e0]) ∧ w = w')) :
    Calls Try.prog 4 #[.agg #[.int .u64 a, .int .u64 b], .int .u64 s] w fun e w' => e = .returned (.bool true) ∧ Below w.heap.size w w' := by
  have A1 := Shut.mk ((Below.refl w.heap.size w).alloc (Nat.le_refl _) (.cells #[.int .u64 (a : Int), .int .u64 (b : Int)] 23))
  go_enter Try.func4, Try.ntmps4
  go_wp2_with fail
  go_quiet (fail)
  go_wp2_with fail
  refine (C1.out _).mono ?_
  rintro e w1 ⟨rfl, hb1⟩
  go_wp2_with fail
  refine (C2.out _).mono ?_
  rintro e w1' ⟨rfl, rfl⟩
  go_wp2_with fail
  refine (works17_any _).mono ?_
  rintro e w3 ⟨rfl, hb3⟩
  go_wp2_with fail
  go_ret
  exact ⟨rfl, below3 (below3 (below_drewN A1.out nq) hb1) hb3⟩

theorem CountLeast_walk (a0 a1 a2 : Int) (w : World) (w0 : (Lit.int .u64 a0).wf = true) (w1 : (Lit.int .u64 a1).wf = true) (w2 : (Lit.int .u64 a2).wf = true) :
    Calls Try.prog 4 #[.agg #[.int .u64 a0, .int .u64 a1], .int .u64 a2] w fun e w' => e = .returned (.bool true) ∧ Below w.heap.size w w' := by
  obtain ⟨a, rfl, ha⟩ := nat_of_u64 w0
  obtain ⟨b, rfl, hb⟩ := nat_of_u64 w1
  obtain ⟨s, rfl, hs⟩ := nat_of_u64 w2
  exact cleast_mid a b s _ _ w ⟨fun w => least_any a b s w ha hb hs⟩ ⟨fun w => rleast_any' a b s w ha hb hs⟩

end Go.Proofs.Ytnnpfmelfhgdcaa
