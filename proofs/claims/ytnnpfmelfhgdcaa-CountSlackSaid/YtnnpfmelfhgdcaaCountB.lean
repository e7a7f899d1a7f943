/- Walks over package count: whether so many are enough. -/
import Derived.Test.YtnnpfmelfhgdcaaCountA
import Derived.Deep.QuietTactic
import Derived.BigQuiet
namespace Go.Proofs.Ytnnpfmelfhgdcaa
set_option linter.unusedVariables false
open Go.RowKit Go.Shelf

/-- Whether so many are enough. -/
def Ct.passes (a b s n : Nat) : Bool := decide (b ≠ 0 ∧ b < a ∧ s * 16777216 ≤ n * Ct.gain a b)

theorem ret_b {a b : Bool} (h : a = b) : Ending.returned (.bool a) = .returned (.bool b) := by rw [h]

set_option maxRecDepth 100000 in
set_option maxHeartbeats 1000000 in
theorem passes_mid (a b s n g h1 l1 h2 l2 : Nat) (r : Bool) (w : World) (hb : ¬ b = 0) (hab : ¬ a ≤ b) (hn : n < 9223372036854775808)
    (C1 : Shut (∀ w, Calls Try.prog 10 #[.int .u64 a, .int .u64 b] w fun e w' => e = .returned (.int .u64 g) ∧ Below w.heap.size w w'))
    (C2 : Shut (∀ w, Calls Try.prog 24 #[.int .u64 n, .int .u64 g] w fun e w' => e = .returned (.agg #[.int .u64 h1, .int .u64 l1]) ∧ Below w.heap.size w w'))
    (C3 : Shut (∀ w, Calls Try.prog 24 #[.int .u64 s, .int .u64 16777216] w fun e w' => e = .returned (.agg #[.int .u64 h2, .int .u64 l2]) ∧ Below w.heap.size w w'))
    (hr : Shut (r = if h1 = h2 ∧ l1 = l2 then true else decide (cmp2 h1 l1 h2 l2 > 0))) :
    Calls Try.prog 12 #[.int .u64 a, .int .u64 b, .int .u64 s, .int .i64 n] w fun e w' => e = .returned (.bool r) ∧ Below w.heap.size w w' := by
  have e0 : ((b : Int) == 0) = false := by simp; omega
  have H1 : ¬ (a : Int) ≤ (b : Int) := by omega
  have eq := fun w => eql_pair h1 l1 h2 l2 w
  clear hb hab
  go_enter Try.func12, Try.ntmps12
  go_wp2_with fail
  refine (C1.out _).mono ?_
  rintro e w1 ⟨rfl, hb1⟩
  go_wp2_with fail
  refine (C2.out _).mono ?_
  rintro e w2 ⟨rfl, hb2⟩
  go_wp2_with fail
  refine (C3.out _).mono ?_
  rintro e w3 ⟨rfl, hb3⟩
  go_wp2_with fail
  by_cases heq : h1 = h2 ∧ l1 = l2
  · obtain ⟨rfl, rfl⟩ := heq
    have hR := hr.out
    simp at hR
    subst hR
    clear hr
    go_quiet (fail)
    go_wp2_with fail
    go_ret
    exact ⟨rfl, ((below3 (below3 hb1 hb2) hb3).trans ((((Below.refl _ _).alloc (Nat.le_refl _) _).alloc (by simp) _).mono (below3 (below3 hb1 hb2) hb3).size)).trans (below_drewN (Below.refl _ _) nq)⟩
  · have hR := hr.out
    rw [if_neg heq] at hR
    have HR := Shut.mk hR
    have ef : ((h1 : Int) == (h2 : Int) && (l1 : Int) == (l2 : Int)) = false := by
      rw [Bool.and_eq_false_iff, beq_eq_false_iff_ne, beq_eq_false_iff_ne]
      omega
    rw [ef] at eq
    have C4 := Shut.mk (fun (w : World) => scompare_any w3.heap.size (w3.heap.size + 1) h1 l1 h2 l2 w)
    clear hr hR ef heq
    generalize cmp2 h1 l1 h2 l2 = c at *
    go_quiet ((go_at_call 25; exact Calls.quiet_of_same (C4.out _ (by simp) (by simp) (by simp) (by simp))))
    go_wp2_with fail
    go_ret
    refine ⟨?_, ((below3 (below3 hb1 hb2) hb3).trans ((((Below.refl _ _).alloc (Nat.le_refl _) _).alloc (by simp) _).mono (below3 (below3 hb1 hb2) hb3).size)).trans (below_drewN (Below.refl _ _) nq)⟩
    exact ret_b HR.out.symm

end Go.Proofs.Ytnnpfmelfhgdcaa
