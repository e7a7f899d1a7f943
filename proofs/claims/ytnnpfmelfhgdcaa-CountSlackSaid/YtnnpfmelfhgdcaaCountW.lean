/- What the laws of layer 17 ask of the chapter's examples. -/
import Derived.Test.YtnnpfmelfhgdcaaCountL
namespace Go.Proofs.Ytnnpfmelfhgdcaa
set_option linter.unusedVariables false
open Go.RowKit Go.Shelf

theorem is_any (a b s : Nat) (want e : Int) (w : World) (ha : a < 18446744073709551616) (hb : b < 18446744073709551616) (hs : s < 18446744073709551616) (h1 : (Ct.leastN a b s : Int) = want) (h2 : (Ct.leastE a b s : Int) = e) :
    Calls Try.prog 19 #[.int .u64 a, .int .u64 b, .int .u64 s, .int .i64 want, .int .i64 e] w fun e w' => e = .returned (.bool true) ∧ Below w.heap.size w w' := by
  have C := Shut.mk (fun w => least_any a b s w ha hb hs)
  rw [h1, h2] at C
  clear ha hb hs h1 h2
  go_enter Try.func19, Try.ntmps19
  go_wp2_with fail
  refine (C.out _).mono ?_
  rintro e w1 ⟨rfl, hb1⟩
  go_wp2_with fail
  go_ret
  exact ⟨ret_b (by simp), hb1⟩

theorem g42 : Ct.gain 4 2 = 16777215 := by decide +kernel
theorem g41 : Ct.gain 4 1 = 33554431 := by decide +kernel
theorem g33 : Ct.gain 3 3 = 0 := by decide +kernel
theorem g43 : Ct.gain 4 3 = 6963173 := by decide +kernel
theorem l1 : Ct.leastN 4 2 40 = 41 ∧ Ct.leastE 4 2 40 = 0 := by decide +kernel
theorem l2 : Ct.leastN 4 2 0 = 0 ∧ Ct.leastE 4 2 0 = 0 := by decide +kernel
theorem l3 : Ct.leastN 4 1 40 = 21 ∧ Ct.leastE 4 1 40 = 0 := by decide +kernel
theorem l4 : Ct.leastN 2 2 1 = 0 ∧ Ct.leastE 2 2 1 = 6 := by decide +kernel
theorem l5 : Ct.leastN 1 0 1 = 0 ∧ Ct.leastE 1 0 1 = 2 := by decide +kernel
theorem l6 : Ct.leastN 1000001 1000000 40 = 0 ∧ Ct.leastE 1000001 1000000 40 = 13 := by decide +kernel
theorem p1 : Ct.passes 4 2 40 40 = false := by decide +kernel
theorem p2 : Ct.passes 4 2 40 41 = true := by decide +kernel
theorem p3 : Ct.passes 4 2 0 0 = true := by decide +kernel

theorem nat_of_u64 {a : Int} (h : (Lit.int .u64 a).wf = true) : ∃ x : Nat, a = (x : Int) ∧ x < 18446744073709551616 := by
  have h1 : IntKind.u64.min = 0 := by decide +kernel
  have h2 : IntKind.u64.max = 18446744073709551615 := by decide +kernel
  simp [Lit.wf, h1, h2] at h
  exact ⟨a.toNat, by omega, by omega⟩
theorem i64_cases {a : Int} (h : (Lit.int .i64 a).wf = true) : a < 0 ∨ ∃ x : Nat, a = (x : Int) ∧ x < 9223372036854775808 := by
  have h1 : IntKind.i64.min = -9223372036854775808 := by decide +kernel
  have h2 : IntKind.i64.max = 9223372036854775807 := by decide +kernel
  simp [Lit.wf, h1, h2] at h
  rcases Int.lt_or_le a 0 with h0 | h0
  · exact .inl h0
  · exact .inr ⟨a.toNat, by omega, by omega⟩

set_option maxRecDepth 100000 in
set_option maxHeartbeats 1000000 in
/-- What 'works' asks of the chapter's examples: so they are. -/
theorem works17_any (w : World) :
    Calls Try.prog 14 #[] w fun e w' => e = .returned (.bool true) ∧ Below w.heap.size w w' := by
  have G1 := Shut.mk (fun w => g42 ▸ gain_any 4 2 w (by omega) (by omega))
  have G2 := Shut.mk (fun w => g41 ▸ gain_any 4 1 w (by omega) (by omega))
  have G3 := Shut.mk (fun w => g33 ▸ gain_any 3 3 w (by omega) (by omega))
  have G4 := Shut.mk (fun w => g43 ▸ gain_any 4 3 w (by omega) (by omega))
  have I1 := Shut.mk (fun w => is_any 4 2 40 41 0 w (by omega) (by omega) (by omega) (by rw [l1.1]; rfl) (by rw [l1.2]; rfl))
  have I2 := Shut.mk (fun w => is_any 4 2 0 0 0 w (by omega) (by omega) (by omega) (by rw [l2.1]; rfl) (by rw [l2.2]; rfl))
  have I3 := Shut.mk (fun w => is_any 4 1 40 21 0 w (by omega) (by omega) (by omega) (by rw [l3.1]; rfl) (by rw [l3.2]; rfl))
  have I4 := Shut.mk (fun w => is_any 2 2 1 0 6 w (by omega) (by omega) (by omega) (by rw [l4.1]; rfl) (by rw [l4.2]; rfl))
  have I5 := Shut.mk (fun w => is_any 1 0 1 0 2 w (by omega) (by omega) (by omega) (by rw [l5.1]; rfl) (by rw [l5.2]; rfl))
  have I6 := Shut.mk (fun w => is_any 1000001 1000000 40 0 13 w (by omega) (by omega) (by omega) (by rw [l6.1]; rfl) (by rw [l6.2]; rfl))
  have P1 := Shut.mk (fun w => p1 ▸ passes_any 4 2 40 40 w (by omega) (by omega) (by omega) (by omega))
  have P2 := Shut.mk (fun w => p2 ▸ passes_any 4 2 40 41 w (by omega) (by omega) (by omega) (by omega))
  have P3 := Shut.mk (fun w => p3 ▸ passes_any 4 2 0 0 w (by omega) (by omega) (by omega) (by omega))
  have P4 := Shut.mk (fun w => passes_neg 4 2 0 (-1) w (by omega))
  go_enter Try.func14, Try.ntmps14
  go_wp2_with fail
  refine (G1.out _).mono ?_
  rintro e w1 ⟨rfl, hb1⟩
  go_wp2_with fail
  refine (G2.out _).mono ?_
  rintro e w2 ⟨rfl, hb2⟩
  go_wp2_with fail
  refine (G3.out _).mono ?_
  rintro e w3 ⟨rfl, hb3⟩
  go_wp2_with fail
  refine (G4.out _).mono ?_
  rintro e w4 ⟨rfl, hb4⟩
  go_wp2_with fail
  refine (I1.out _).mono ?_
  rintro e w5 ⟨rfl, hb5⟩
  go_wp2_with fail
  refine (I2.out _).mono ?_
  rintro e w6 ⟨rfl, hb6⟩
  go_wp2_with fail
  refine (I3.out _).mono ?_
  rintro e w7 ⟨rfl, hb7⟩
  go_wp2_with fail
  refine (I4.out _).mono ?_
  rintro e w8 ⟨rfl, hb8⟩
  go_wp2_with fail
  refine (I5.out _).mono ?_
  rintro e w9 ⟨rfl, hb9⟩
  go_wp2_with fail
  refine (I6.out _).mono ?_
  rintro e w10 ⟨rfl, hb10⟩
  go_wp2_with fail
  refine (P1.out _).mono ?_
  rintro e w11 ⟨rfl, hb11⟩
  go_wp2_with fail
  refine (P2.out _).mono ?_
  rintro e w12 ⟨rfl, hb12⟩
  go_wp2_with fail
  refine (P3.out _).mono ?_
  rintro e w13 ⟨rfl, hb13⟩
  go_wp2_with fail
  refine (P4.out _).mono ?_
  rintro e w14 ⟨rfl, hb14⟩
  go_wp2_with fail
  go_ret
  exact ⟨rfl, (below3 (below3 (below3 (below3 (below3 (below3 (below3 (below3 (below3 (below3 (below3 (below3 (below3 hb1 hb2) hb3) hb4) hb5) hb6) hb7) hb8) hb9) hb10) hb11) hb12) hb13) hb14)⟩

end Go.Proofs.Ytnnpfmelfhgdcaa
