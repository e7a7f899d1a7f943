/- The walk of the law CountExact. -/
import Derived.Test.YtnnpfmelfhgdcaaCountX
namespace Go.Proofs.Ytnnpfmelfhgdcaa
set_option linter.unusedVariables false
open Go.RowKit Go.Shelf

set_option maxRecDepth 100000 in
set_option maxHeartbeats 1000000 in
/-- There is none: as many as may be are not enough. -/
theorem exact_none (a b s c : Nat) (w : World) (hc : c = 2 ∧ b = 0 ∨ c = 6 ∧ b ≠ 0 ∧ a ≤ b ∨ c = 13 ∧ b ≠ 0 ∧ ¬ a ≤ b)
    (CL : Shut (∀ w, Calls Try.prog 15 #[.int .u64 a, .int .u64 b, .int .u64 s] w fun e w' => e = .returned (.tuple #[.int .i64 0, .int .i64 c]) ∧ Below w.heap.size w w'))
    (CP : Shut (∀ w, Calls Try.prog 12 #[.int .u64 a, .int .u64 b, .int .u64 s, .int .i64 640] w fun e w' => e = .returned (.bool false) ∧ Below w.heap.size w w')) :
    Calls Try.prog 7 #[.agg #[.int .u64 a, .int .u64 b], .int .u64 s] w fun e w' => e = .returned (.bool true) ∧ Below w.heap.size w w' := by
  have A1 := Shut.mk ((Below.refl w.heap.size w).alloc (Nat.le_refl _) (.cells #[.int .u64 (a : Int), .int .u64 (b : Int)] 23))
  rcases hc with ⟨rfl, rfl⟩ | ⟨rfl, hb0, hab⟩ | ⟨rfl, hb0, hab⟩
  · go_enter Try.func7, Try.ntmps7
    go_wp2_with fail
    refine (works17_any _).mono ?_
    rintro e w1 ⟨rfl, hb1⟩
    obtain ⟨c1, f1⟩ := bcell hb1
    have hz := hb1.size
    go_wp2_with fail
    go_quiet (fail)
    clear c1 f1 hz
    go_wp2_with fail
    refine (CL.out _).mono ?_
    rintro e w2 ⟨rfl, hb2⟩
    go_wp2_with fail
    refine (CP.out _).mono ?_
    rintro e w3 ⟨rfl, hb3⟩
    go_wp2_with fail
    go_ret
    exact ⟨rfl, (below3 (below3 (below_drewN (below3 A1.out hb1) nq) hb2) hb3)⟩

  · have e0 : ((b : Int) == 0) = false := by simp; omega
    have e1 : (a : Int) ≤ (b : Int) := by omega
    clear hb0 hab
    go_enter Try.func7, Try.ntmps7
    go_wp2_with fail
    refine (works17_any _).mono ?_
    rintro e w1 ⟨rfl, hb1⟩
    obtain ⟨c1, f1⟩ := bcell hb1
    have hz := hb1.size
    go_wp2_with fail
    go_quiet (fail)
    clear c1 f1 hz
    go_wp2_with fail
    refine (CL.out _).mono ?_
    rintro e w2 ⟨rfl, hb2⟩
    go_wp2_with fail
    refine (CP.out _).mono ?_
    rintro e w3 ⟨rfl, hb3⟩
    go_wp2_with fail
    go_ret
    exact ⟨rfl, (below3 (below3 (below_drewN (below3 A1.out hb1) nq) hb2) hb3)⟩
  · have e0 : ((b : Int) == 0) = false := by simp; omega
    have e1 : ¬ (a : Int) ≤ (b : Int) := by omega
    clear hb0 hab
    go_enter Try.func7, Try.ntmps7
    go_wp2_with fail
    refine (works17_any _).mono ?_
    rintro e w1 ⟨rfl, hb1⟩
    obtain ⟨c1, f1⟩ := bcell hb1
    have hz := hb1.size
    go_wp2_with fail
    go_quiet (fail)
    clear c1 f1 hz
    go_wp2_with fail
    refine (CL.out _).mono ?_
    rintro e w2 ⟨rfl, hb2⟩
    go_wp2_with fail
    refine (CP.out _).mono ?_
    rintro e w3 ⟨rfl, hb3⟩
    go_wp2_with fail
    go_ret
    exact ⟨rfl, (below3 (below3 (below_drewN (below3 A1.out hb1) nq) hb2) hb3)⟩

set_option maxRecDepth 100000 in
set_option maxHeartbeats 1000000 in
/-- There is one: it is enough, one less is not. -/
theorem exact_some (a b s k : Nat) (w : World) (hb0 : b ≠ 0) (hab : ¬ a ≤ b) (hk : k ≤ 640)
    (CL : Shut (∀ w, Calls Try.prog 15 #[.int .u64 a, .int .u64 b, .int .u64 s] w fun e w' => e = .returned (.tuple #[.int .i64 k, .int .i64 0]) ∧ Below w.heap.size w w'))
    (CP : Shut (∀ w, Calls Try.prog 12 #[.int .u64 a, .int .u64 b, .int .u64 s, .int .i64 k] w fun e w' => e = .returned (.bool true) ∧ Below w.heap.size w w'))
    (CQ : Shut (∀ w, Calls Try.prog 12 #[.int .u64 a, .int .u64 b, .int .u64 s, .int .i64 ((k : Int) - 1)] w fun e w' => e = .returned (.bool false) ∧ Below w.heap.size w w')) :
    Calls Try.prog 7 #[.agg #[.int .u64 a, .int .u64 b], .int .u64 s] w fun e w' => e = .returned (.bool true) ∧ Below w.heap.size w w' := by
  have A1 := Shut.mk ((Below.refl w.heap.size w).alloc (Nat.le_refl _) (.cells #[.int .u64 (a : Int), .int .u64 (b : Int)] 23))
  have e0 : ((b : Int) == 0) = false := by simp; omega
  have e1 : ¬ (a : Int) ≤ (b : Int) := by omega
  clear hb0 hab
  go_enter Try.func7, Try.ntmps7
  go_wp2_with fail
  refine (works17_any _).mono ?_
  rintro e w1 ⟨rfl, hb1⟩
  obtain ⟨c1, f1⟩ := bcell hb1
  have hz := hb1.size
  go_wp2_with fail
  go_quiet (fail)
  clear c1 f1 hz
  go_wp2_with fail
  refine (CL.out _).mono ?_
  rintro e w2 ⟨rfl, hb2⟩
  go_wp2_with fail
  refine (CP.out _).mono ?_
  rintro e w3 ⟨rfl, hb3⟩
  go_wp2_with fail
  refine (CQ.out _).mono ?_
  rintro e w4 ⟨rfl, hb4⟩
  go_wp2_with fail
  go_ret
  exact ⟨rfl, (below3 (below3 (below3 (below_drewN (below3 A1.out hb1) nq) hb2) hb3) hb4)⟩

theorem CountExact_walk (a0 a1 a2 : Int) (w : World) (w0 : (Lit.int .u64 a0).wf = true) (w1 : (Lit.int .u64 a1).wf = true) (w2 : (Lit.int .u64 a2).wf = true) :
    Calls Try.prog 7 #[.agg #[.int .u64 a0, .int .u64 a1], .int .u64 a2] w fun e w' => e = .returned (.bool true) ∧ Below w.heap.size w w' := by
  obtain ⟨a, rfl, ha⟩ := nat_of_u64 w0
  obtain ⟨b, rfl, hb⟩ := nat_of_u64 w1
  obtain ⟨s, rfl, hs⟩ := nat_of_u64 w2
  have HL := fun w => least_any a b s w ha hb hs
  have HP := fun n (hn : n < 9223372036854775808) w => passes_any a b s n w ha hb hs hn
  unfold Ct.leastN Ct.leastE at HL
  by_cases h0 : b = 0
  · rw [if_pos (.inl h0), if_pos h0] at HL
    exact exact_none a b s 2 w (.inl ⟨rfl, h0⟩) ⟨HL⟩ ⟨fun w => passes_no a b s 640 (.inl h0) ▸ HP 640 (by omega) w⟩
  · by_cases h1 : a ≤ b
    · rw [if_pos (.inr h1), if_neg h0, if_pos h1] at HL
      exact exact_none a b s 6 w (.inr (.inl ⟨rfl, h0, h1⟩)) ⟨HL⟩ ⟨fun w => passes_no a b s 640 (.inr h1) ▸ HP 640 (by omega) w⟩
    · rw [if_neg (by omega), if_neg h0, if_neg h1] at HL
      by_cases hk : 640 < Ct.k a b s
      · rw [if_pos hk, if_pos hk] at HL
        exact exact_none a b s 13 w (.inr (.inr ⟨rfl, h0, h1⟩)) ⟨HL⟩ ⟨fun w => Ct.k_no a b s 640 hk ▸ HP 640 (by omega) w⟩
      · rw [if_neg hk, if_neg hk] at HL
        refine exact_some a b s (Ct.k a b s) w h0 h1 (by omega) ⟨HL⟩ ⟨fun w => Ct.k_yes a b s (by omega) ▸ HP _ (by omega) w⟩ ⟨fun w => ?_⟩
        rcases Nat.eq_zero_or_pos (Ct.k a b s) with hz | hz
        · exact passes_neg a b s _ w (by omega)
        · rw [show ((Ct.k a b s : Nat) : Int) - 1 = ((Ct.k a b s - 1 : Nat) : Int) from by omega]
          exact Ct.k_no a b s (Ct.k a b s - 1) (by omega) ▸ HP _ (by omega) w

end Go.Proofs.Ytnnpfmelfhgdcaa
