/- The walk of the law CountKnown. -/
import Derived.Test.YtnnpfmelfhgdcaaCountW
namespace Go.Proofs.Ytnnpfmelfhgdcaa
set_option linter.unusedVariables false
open Go.RowKit Go.Shelf

theorem kg1 : Ct.gain 0 0 = 0 := by decide +kernel
theorem kg2 : Ct.gain 5 0 = 0 := by decide +kernel
theorem kg3 : Ct.gain 2 1 = 16777215 := by decide +kernel
theorem kg4 : Ct.gain 18446744073709551615 1 = 1073741822 := by decide +kernel
theorem kp5 : Ct.passes 18446744073709551615 1 18446744073709551615 640 = false := by decide +kernel
theorem kp6 : Ct.passes 18446744073709551615 1 72057594037927936 9223372036854775807 = true := by decide +kernel
theorem kp7 : Ct.passes 2 1 9223372036854775808 9223372036854775807 = false := by decide +kernel
theorem kp8 : Ct.passes 2 1 4611686018427387904 9223372036854775807 = true := by decide +kernel
theorem kl9 : Ct.leastN 18446744073709551615 1 256 = 5 ∧ Ct.leastE 18446744073709551615 1 256 = 0 := by decide +kernel
theorem kl10 : Ct.leastN 2 1 256 = 257 ∧ Ct.leastE 2 1 256 = 0 := by decide +kernel
theorem kl11 : Ct.leastN 18446744073709551615 9223372036854775808 256 = 257 ∧ Ct.leastE 18446744073709551615 9223372036854775808 256 = 0 := by decide +kernel
theorem kp12 : Ct.passes 5 0 0 1 = false := by decide +kernel
theorem kp13 : Ct.passes 0 0 0 0 = false := by decide +kernel
theorem kp14 : Ct.passes 3 3 0 5 = false := by decide +kernel
theorem kl15 : Ct.leastN 18446744073709551615 18446744073709551614 0 = 0 ∧ Ct.leastE 18446744073709551615 18446744073709551614 0 = 0 := by decide +kernel
theorem kl16 : Ct.leastN 18446744073709551615 18446744073709551614 1 = 0 ∧ Ct.leastE 18446744073709551615 18446744073709551614 1 = 13 := by decide +kernel

set_option maxRecDepth 100000 in
set_option maxHeartbeats 2000000 in
theorem CountKnown_walk (w : World) :
    Calls Try.prog 8 #[] w fun e w' => e = .returned (.bool true) ∧ Below w.heap.size w w' := by
  have H1 := Shut.mk (show ∀ w, Calls Try.prog 10 #[.int .u64 0, .int .u64 0] w fun e w' => e = .returned (.int .u64 0) ∧ Below w.heap.size w w' from by intro w; have h := gain_any 0 0 w (by omega) (by omega); rw [kg1] at h; exact h)
  have H2 := Shut.mk (show ∀ w, Calls Try.prog 10 #[.int .u64 5, .int .u64 0] w fun e w' => e = .returned (.int .u64 0) ∧ Below w.heap.size w w' from by intro w; have h := gain_any 5 0 w (by omega) (by omega); rw [kg2] at h; exact h)
  have H3 := Shut.mk (show ∀ w, Calls Try.prog 10 #[.int .u64 2, .int .u64 1] w fun e w' => e = .returned (.int .u64 16777215) ∧ Below w.heap.size w w' from by intro w; have h := gain_any 2 1 w (by omega) (by omega); rw [kg3] at h; exact h)
  have H4 := Shut.mk (show ∀ w, Calls Try.prog 10 #[.int .u64 18446744073709551615, .int .u64 1] w fun e w' => e = .returned (.int .u64 1073741822) ∧ Below w.heap.size w w' from by intro w; have h := gain_any 18446744073709551615 1 w (by omega) (by omega); rw [kg4] at h; exact h)
  have H5 := Shut.mk (show ∀ w, Calls Try.prog 12 #[.int .u64 18446744073709551615, .int .u64 1, .int .u64 18446744073709551615, .int .i64 640] w fun e w' => e = .returned (.bool false) ∧ Below w.heap.size w w' from by intro w; have h := passes_any 18446744073709551615 1 18446744073709551615 640 w (by omega) (by omega) (by omega) (by omega); rw [kp5] at h; exact h)
  have H6 := Shut.mk (show ∀ w, Calls Try.prog 12 #[.int .u64 18446744073709551615, .int .u64 1, .int .u64 72057594037927936, .int .i64 9223372036854775807] w fun e w' => e = .returned (.bool true) ∧ Below w.heap.size w w' from by intro w; have h := passes_any 18446744073709551615 1 72057594037927936 9223372036854775807 w (by omega) (by omega) (by omega) (by omega); rw [kp6] at h; exact h)
  have H7 := Shut.mk (show ∀ w, Calls Try.prog 12 #[.int .u64 2, .int .u64 1, .int .u64 9223372036854775808, .int .i64 9223372036854775807] w fun e w' => e = .returned (.bool false) ∧ Below w.heap.size w w' from by intro w; have h := passes_any 2 1 9223372036854775808 9223372036854775807 w (by omega) (by omega) (by omega) (by omega); rw [kp7] at h; exact h)
  have H8 := Shut.mk (show ∀ w, Calls Try.prog 12 #[.int .u64 2, .int .u64 1, .int .u64 4611686018427387904, .int .i64 9223372036854775807] w fun e w' => e = .returned (.bool true) ∧ Below w.heap.size w w' from by intro w; have h := passes_any 2 1 4611686018427387904 9223372036854775807 w (by omega) (by omega) (by omega) (by omega); rw [kp8] at h; exact h)
  have H9 := Shut.mk (show ∀ w, Calls Try.prog 19 #[.int .u64 18446744073709551615, .int .u64 1, .int .u64 256, .int .i64 5, .int .i64 0] w fun e w' => e = .returned (.bool true) ∧ Below w.heap.size w w' from fun w => is_any 18446744073709551615 1 256 5 0 w (by omega) (by omega) (by omega) (by rw [kl9.1]; rfl) (by rw [kl9.2]; rfl))
  have H10 := Shut.mk (show ∀ w, Calls Try.prog 19 #[.int .u64 2, .int .u64 1, .int .u64 256, .int .i64 257, .int .i64 0] w fun e w' => e = .returned (.bool true) ∧ Below w.heap.size w w' from fun w => is_any 2 1 256 257 0 w (by omega) (by omega) (by omega) (by rw [kl10.1]; rfl) (by rw [kl10.2]; rfl))
  have H11 := Shut.mk (show ∀ w, Calls Try.prog 19 #[.int .u64 18446744073709551615, .int .u64 9223372036854775808, .int .u64 256, .int .i64 257, .int .i64 0] w fun e w' => e = .returned (.bool true) ∧ Below w.heap.size w w' from fun w => is_any 18446744073709551615 9223372036854775808 256 257 0 w (by omega) (by omega) (by omega) (by rw [kl11.1]; rfl) (by rw [kl11.2]; rfl))
  have H12 := Shut.mk (show ∀ w, Calls Try.prog 12 #[.int .u64 5, .int .u64 0, .int .u64 0, .int .i64 1] w fun e w' => e = .returned (.bool false) ∧ Below w.heap.size w w' from by intro w; have h := passes_any 5 0 0 1 w (by omega) (by omega) (by omega) (by omega); rw [kp12] at h; exact h)
  have H13 := Shut.mk (show ∀ w, Calls Try.prog 12 #[.int .u64 0, .int .u64 0, .int .u64 0, .int .i64 0] w fun e w' => e = .returned (.bool false) ∧ Below w.heap.size w w' from by intro w; have h := passes_any 0 0 0 0 w (by omega) (by omega) (by omega) (by omega); rw [kp13] at h; exact h)
  have H14 := Shut.mk (show ∀ w, Calls Try.prog 12 #[.int .u64 3, .int .u64 3, .int .u64 0, .int .i64 5] w fun e w' => e = .returned (.bool false) ∧ Below w.heap.size w w' from by intro w; have h := passes_any 3 3 0 5 w (by omega) (by omega) (by omega) (by omega); rw [kp14] at h; exact h)
  have H15 := Shut.mk (show ∀ w, Calls Try.prog 19 #[.int .u64 18446744073709551615, .int .u64 18446744073709551614, .int .u64 0, .int .i64 0, .int .i64 0] w fun e w' => e = .returned (.bool true) ∧ Below w.heap.size w w' from fun w => is_any 18446744073709551615 18446744073709551614 0 0 0 w (by omega) (by omega) (by omega) (by rw [kl15.1]; rfl) (by rw [kl15.2]; rfl))
  have H16 := Shut.mk (show ∀ w, Calls Try.prog 19 #[.int .u64 18446744073709551615, .int .u64 18446744073709551614, .int .u64 1, .int .i64 0, .int .i64 13] w fun e w' => e = .returned (.bool true) ∧ Below w.heap.size w w' from fun w => is_any 18446744073709551615 18446744073709551614 1 0 13 w (by omega) (by omega) (by omega) (by rw [kl16.1]; rfl) (by rw [kl16.2]; rfl))
  go_enter Try.func8, Try.ntmps8
  go_wp2_with fail
  refine (works17_any _).mono ?_
  rintro e w1 ⟨rfl, hb1⟩
  go_wp2_with fail
  refine (H1.out _).mono ?_
  rintro e w2 ⟨rfl, hb2⟩
  go_wp2_with fail
  refine (H2.out _).mono ?_
  rintro e w3 ⟨rfl, hb3⟩
  go_wp2_with fail
  refine (H3.out _).mono ?_
  rintro e w4 ⟨rfl, hb4⟩
  go_wp2_with fail
  refine (H4.out _).mono ?_
  rintro e w5 ⟨rfl, hb5⟩
  go_wp2_with fail
  refine (H5.out _).mono ?_
  rintro e w6 ⟨rfl, hb6⟩
  go_wp2_with fail
  refine (H6.out _).mono ?_
  rintro e w7 ⟨rfl, hb7⟩
  go_wp2_with fail
  refine (H7.out _).mono ?_
  rintro e w8 ⟨rfl, hb8⟩
  go_wp2_with fail
  refine (H8.out _).mono ?_
  rintro e w9 ⟨rfl, hb9⟩
  go_wp2_with fail
  refine (H9.out _).mono ?_
  rintro e w10 ⟨rfl, hb10⟩
  go_wp2_with fail
  refine (H10.out _).mono ?_
  rintro e w11 ⟨rfl, hb11⟩
  go_wp2_with fail
  refine (H11.out _).mono ?_
  rintro e w12 ⟨rfl, hb12⟩
  go_wp2_with fail
  refine (H12.out _).mono ?_
  rintro e w13 ⟨rfl, hb13⟩
  go_wp2_with fail
  refine (H13.out _).mono ?_
  rintro e w14 ⟨rfl, hb14⟩
  go_wp2_with fail
  refine (H14.out _).mono ?_
  rintro e w15 ⟨rfl, hb15⟩
  go_wp2_with fail
  refine (H15.out _).mono ?_
  rintro e w16 ⟨rfl, hb16⟩
  go_wp2_with fail
  refine (H16.out _).mono ?_
  rintro e w17 ⟨rfl, hb17⟩
  go_wp2_with fail
  go_ret
  exact ⟨rfl, (below3 (below3 (below3 (below3 (below3 (below3 (below3 (below3 (below3 (below3 (below3 (below3 (below3 (below3 (below3 (below3 hb1 hb2) hb3) hb4) hb5) hb6) hb7) hb8) hb9) hb10) hb11) hb12) hb13) hb14) hb15) hb16) hb17)⟩

end Go.Proofs.Ytnnpfmelfhgdcaa
