/- Walk: DivMod. -/
import Derived.Test.YtdgklodhgbbdjaaWY
import Derived.Deep.Cut
namespace Go.Proofs.Ytdgklodhgbbdjaa
set_option linter.unusedVariables false
set_option linter.unusedSimpArgs false
open Go Go.RowKit

/-- Four cells stored. -/
theorem RowAt.put4 {W : World} {t g a b c d : Nat} (h : RowAt W t g 4 (U [a, b, c, d])) (x0 x1 x2 x3 : Nat) :
    RowAt ((((W.setCell ⟨g, 0, none⟩ (.int .u64 x0)).setCell ⟨g, 1, none⟩ (.int .u64 x1)).setCell ⟨g, 2, none⟩ (.int .u64 x2)).setCell ⟨g, 3, none⟩ (.int .u64 x3)) t g 4 (U [x0, x1, x2, x3]) := by
  have h0 := h.set_ 0 (.int .u64 x0)
  rw [U_set] at h0
  have h1 := h0.set_ 1 (.int .u64 x1)
  rw [U_set] at h1
  have h2 := h1.set_ 2 (.int .u64 x2)
  rw [U_set] at h2
  have h3 := h2.set_ 3 (.int .u64 x3)
  rw [U_set] at h3
  exact h3

theorem RowAt.far4 {W : World} {t g G c : Nat} {xs : List Value} (h : RowAt W t g c xs) (hg : g ≠ G) (u0 u1 u2 u3 : Value) :
    RowAt ((((W.setCell ⟨G, 0, none⟩ u0).setCell ⟨G, 1, none⟩ u1).setCell ⟨G, 2, none⟩ u2).setCell ⟨G, 3, none⟩ u3) t g c xs :=
  (((h.far (p := ⟨G, 0, none⟩) hg u0).far (p := ⟨G, 1, none⟩) hg u1).far (p := ⟨G, 2, none⟩) hg u2).far (p := ⟨G, 3, none⟩) hg u3

theorem below_put4 {B : Nat} {w W : World} (h : Below B w W) {G : Nat} (hg : B ≤ G) (u0 u1 u2 u3 : Value) :
    Below B w ((((W.setCell ⟨G, 0, none⟩ u0).setCell ⟨G, 1, none⟩ u1).setCell ⟨G, 2, none⟩ u2).setCell ⟨G, 3, none⟩ u3) :=
  (((h.setCell (p := ⟨G, 0, none⟩) hg u0).setCell (p := ⟨G, 1, none⟩) hg u1).setCell (p := ⟨G, 2, none⟩) hg u2).setCell (p := ⟨G, 3, none⟩) hg u3

/-- What the loop holds. -/
def DivL (w : World) (a0 a1 a2 a3 b0 b1 b2 b3 k r0 r1 r2 r3 : Nat) (qs : List Nat) (W : World) : Prop :=
  DivI (vn [a0, a1, a2, a3] 4) (vn [b0, b1, b2, b3] 4) k qs [r0, r1, r2, r3] ∧ RowAt W 24 w.heap.size 4 (U [a0, a1, a2, a3]) ∧ RowAt W 24 (w.heap.size + 1) 4 (U [b0, b1, b2, b3]) ∧ RowAt W 24 (w.heap.size + 1 + 1) 4 (U qs) ∧ RowAt W 24 (w.heap.size + 1 + 1 + 1) 4 (U [r0, r1, r2, r3]) ∧ Below w.heap.size w W

set_option maxRecDepth 100000 in
set_option maxHeartbeats 4000000 in
theorem divmod_any (a0 a1 a2 a3 b0 b1 b2 b3 : Nat) (w : World) (ha : ∀ x ∈ [a0, a1, a2, a3], x < 18446744073709551616) (hb : ∀ x ∈ [b0, b1, b2, b3], x < 18446744073709551616) (hb0 : 0 < vn [b0, b1, b2, b3] 4) :
    Calls Try.prog 28 #[.agg #[.int .u64 a0, .int .u64 a1, .int .u64 a2, .int .u64 a3], .agg #[.int .u64 b0, .int .u64 b1, .int .u64 b2, .int .u64 b3]] w fun e w' => ∃ q0 q1 q2 q3 r0 r1 r2 r3 : Nat, e = .returned (.tuple #[.agg #[.int .u64 q0, .int .u64 q1, .int .u64 q2, .int .u64 q3], .agg #[.int .u64 r0, .int .u64 r1, .int .u64 r2, .int .u64 r3], .bool false]) ∧ (∀ x ∈ [q0, q1, q2, q3], x < 18446744073709551616) ∧ (∀ x ∈ [r0, r1, r2, r3], x < 18446744073709551616) ∧ vn [q0, q1, q2, q3] 4 = vn [a0, a1, a2, a3] 4 / vn [b0, b1, b2, b3] 4 ∧ vn [r0, r1, r2, r3] 4 = vn [a0, a1, a2, a3] 4 % vn [b0, b1, b2, b3] 4 ∧ Below w.heap.size w w' := by
  have R2' := (((RowAt.arr w 24 [a0, a1, a2, a3] (show 4 < 1000000 by decide)).alloc (.cells #[.int .u64 b0, .int .u64 b1, .int .u64 b2, .int .u64 b3] 24)).alloc (.cells #[.int .u64 0, .int .u64 0, .int .u64 0, .int .u64 0] 24)).alloc (.cells #[.int .u64 0, .int .u64 0, .int .u64 0, .int .u64 0] 24)
  have R3' := ((RowAt.arr (w.alloc (.cells #[.int .u64 a0, .int .u64 a1, .int .u64 a2, .int .u64 a3] 24)) 24 [b0, b1, b2, b3] (show 4 < 1000000 by decide)).alloc (.cells #[.int .u64 0, .int .u64 0, .int .u64 0, .int .u64 0] 24)).alloc (.cells #[.int .u64 0, .int .u64 0, .int .u64 0, .int .u64 0] 24)
  have R4' := (RowAt.arr ((w.alloc (.cells #[.int .u64 a0, .int .u64 a1, .int .u64 a2, .int .u64 a3] 24)).alloc (.cells #[.int .u64 b0, .int .u64 b1, .int .u64 b2, .int .u64 b3] 24)) 24 [0, 0, 0, 0] (by decide)).alloc (.cells #[.int .u64 0, .int .u64 0, .int .u64 0, .int .u64 0] 24)
  have R5' := RowAt.arr (((w.alloc (.cells #[.int .u64 a0, .int .u64 a1, .int .u64 a2, .int .u64 a3] 24)).alloc (.cells #[.int .u64 b0, .int .u64 b1, .int .u64 b2, .int .u64 b3] 24)).alloc (.cells #[.int .u64 0, .int .u64 0, .int .u64 0, .int .u64 0] 24)) 24 [0, 0, 0, 0] (by decide)
  simp only [World.size_alloc] at R2' R3' R4' R5'
  have R2 : Shut (RowAt ((((w.alloc (.cells #[.int .u64 a0, .int .u64 a1, .int .u64 a2, .int .u64 a3] 24)).alloc (.cells #[.int .u64 b0, .int .u64 b1, .int .u64 b2, .int .u64 b3] 24)).alloc (.cells #[.int .u64 0, .int .u64 0, .int .u64 0, .int .u64 0] 24)).alloc (.cells #[.int .u64 0, .int .u64 0, .int .u64 0, .int .u64 0] 24)) 24 w.heap.size 4 (U [a0, a1, a2, a3])) := ⟨R2'⟩
  have R3 : Shut (RowAt ((((w.alloc (.cells #[.int .u64 a0, .int .u64 a1, .int .u64 a2, .int .u64 a3] 24)).alloc (.cells #[.int .u64 b0, .int .u64 b1, .int .u64 b2, .int .u64 b3] 24)).alloc (.cells #[.int .u64 0, .int .u64 0, .int .u64 0, .int .u64 0] 24)).alloc (.cells #[.int .u64 0, .int .u64 0, .int .u64 0, .int .u64 0] 24)) 24 (w.heap.size + 1) 4 (U [b0, b1, b2, b3])) := ⟨R3'⟩
  have R4 : Shut (RowAt ((((w.alloc (.cells #[.int .u64 a0, .int .u64 a1, .int .u64 a2, .int .u64 a3] 24)).alloc (.cells #[.int .u64 b0, .int .u64 b1, .int .u64 b2, .int .u64 b3] 24)).alloc (.cells #[.int .u64 0, .int .u64 0, .int .u64 0, .int .u64 0] 24)).alloc (.cells #[.int .u64 0, .int .u64 0, .int .u64 0, .int .u64 0] 24)) 24 (w.heap.size + 1 + 1) 4 (U [0, 0, 0, 0])) := ⟨R4'⟩
  have R5 : Shut (RowAt ((((w.alloc (.cells #[.int .u64 a0, .int .u64 a1, .int .u64 a2, .int .u64 a3] 24)).alloc (.cells #[.int .u64 b0, .int .u64 b1, .int .u64 b2, .int .u64 b3] 24)).alloc (.cells #[.int .u64 0, .int .u64 0, .int .u64 0, .int .u64 0] 24)).alloc (.cells #[.int .u64 0, .int .u64 0, .int .u64 0, .int .u64 0] 24)) 24 (w.heap.size + 1 + 1 + 1) 4 (U [0, 0, 0, 0])) := ⟨R5'⟩
  have B0 := Shut.mk (((((Below.refl w.heap.size w).alloc (Nat.le_refl _) (.cells #[.int .u64 a0, .int .u64 a1, .int .u64 a2, .int .u64 a3] 24)).alloc (by simp) (.cells #[.int .u64 b0, .int .u64 b1, .int .u64 b2, .int .u64 b3] 24)).alloc (by simp; omega) (.cells #[.int .u64 0, .int .u64 0, .int .u64 0, .int .u64 0] 24)).alloc (by simp; omega) (.cells #[.int .u64 0, .int .u64 0, .int .u64 0, .int .u64 0] 24))
  have BN : ¬ [b0, b1, b2, b3] = [0, 0, 0, 0] := fun e => by rw [e, vn_zero4] at hb0; exact absurd hb0 (by decide)
  have EQ : ∀ W : World, (Op.equalIn 10000 24 (.agg #[.int .u64 b0, .int .u64 b1, .int .u64 b2, .int .u64 b3]) (.agg #[.int .u64 0, .int .u64 0, .int .u64 0, .int .u64 0])).run Try.prog W = .ok false W := fun W => by
    have := run_eq_arr 24 4 Try.underlying24 [b0, b1, b2, b3] [0, 0, 0, 0] rfl rfl 9998 W
    rw [decide_eq_false BN] at this
    exact this
  obtain ⟨n, hn⟩ : ∃ n, n = sizeTo [a0, a1, a2, a3] 4 := ⟨_, rfl⟩
  have hn1 : n ≤ 256 := by rw [hn]; exact sizeTo_le _ ha 4 (show 4 ≤ 4 by decide)
  have BL : Shut (∀ W : World, Calls Try.prog 22 #[.agg #[.int .u64 a0, .int .u64 a1, .int .u64 a2, .int .u64 a3]] W fun e w' => e = .returned (.int .i64 (n : Nat)) ∧ Below W.heap.size W w') := ⟨fun W => by rw [hn]; exact bitlen_any a0 a1 a2 a3 W ha⟩
  have I0 : Shut (DivI (vn [a0, a1, a2, a3] 4) (vn [b0, b1, b2, b3] 4) n [0, 0, 0, 0] [0, 0, 0, 0]) := ⟨DivI.start (by rw [hn]; exact vn_below_size _ ha 4) hb0⟩
  have HA := Shut.mk ha
  have HB := Shut.mk (And.intro hb (show vn [b0, b1, b2, b3] 4 < 2 ^ 256 from vn_lt _ 4))
  have GA : ∀ W : World, RowAt W 24 w.heap.size 4 (U [a0, a1, a2, a3]) → _ := fun W h => h.four.1
  have GB : ∀ W : World, RowAt W 24 (w.heap.size + 1) 4 (U [b0, b1, b2, b3]) → _ := fun W h => h.four.1
  obtain ⟨ca0, ca1, ca2, ca3⟩ := GA _ R2.out
  obtain ⟨cb0, cb1, cb2, cb3⟩ := GB _ R3.out
  clear R2' R3' R4' R5' BN hn ha hb hb0 GA GB
  go_enter Try.func28, Try.ntmps28
  go_wp2_with fail
  refine (BL.out _).mono ?_
  rintro e w1 ⟨rfl, hb⟩
  have L0 : Shut (DivL w a0 a1 a2 a3 b0 b1 b2 b3 n 0 0 0 0 [0, 0, 0, 0] w1) := ⟨I0.out, R2.out.below hb, R3.out.below hb, R4.out.below hb, R5.out.below hb, B0.out.trans (hb.mono (by simp only [World.size_alloc]; omega))⟩
  clear hb ca0 ca1 ca2 ca3 cb0 cb1 cb2 cb3
  go_wp2_with fail
  go_loopw [7] (fun i wr => ∃ (k r0 r1 r2 r3 : Nat) (qs : List Nat), k ≤ n ∧ i = .int .i64 ((k : Int) - 1) ∧ DivL w a0 a1 a2 a3 b0 b1 b2 b3 k r0 r1 r2 r3 qs wr) (fun i _ => (intOf i + 1).toNat)
  case atStart => exact ⟨n, 0, 0, 0, 0, _, by omega, rfl, L0.out⟩
  case round =>
    obtain ⟨k, r0, r1, r2, r3, qs, hk, rfl, hL⟩ := hrel
    cases k with
    | zero =>
      obtain ⟨hI, r2', r3', r4', r5', hbw⟩ := hL
      obtain ⟨q0, q1, q2, q3, rfl⟩ := list4 hI.1
      obtain ⟨⟨cr0, cr1, cr2, cr3⟩, fr0, fr1, fr2, fr3⟩ := r5'.four
      obtain ⟨⟨cq0, cq1, cq2, cq3⟩, fq0, fq1, fq2, fq3⟩ := r4'.four
      have h0 : ¬ (((0 : Nat) : Int) - 1 ≥ 0) := by omega
      have F := Shut.mk (And.intro hI.2.2.1 (And.intro hI.2.2.2.1 hI.done))
      have BB := Shut.mk hbw
      clear hI r2' r3' r4' r5' hbw
      go_wp2_with fail
      go_region
      go_wp2_with fail
      refine bodyPost_ret (v := .tuple #[.agg #[.int .u64 q0, .int .u64 q1, .int .u64 q2, .int .u64 q3], .agg #[.int .u64 r0, .int .u64 r1, .int .u64 r2, .int .u64 r3], .bool false]) (by simp [results, Try.results28, go_sem, cr0, cr1, cr2, cr3, cq0, cq1, cq2, cq3]) rfl ⟨q0, q1, q2, q3, r0, r1, r2, r3, rfl, F.out.1, F.out.2.1, F.out.2.2.1, F.out.2.2.2, ?_⟩
      exact below_drewN (below_put4 (below_put4 BB.out (by omega) _ _ _ _) (by omega) _ _ _ _) 1
    | succ k =>
      rw [show ((k + 1 : Nat) : Int) - 1 = (k : Int) by omega]
      have hk2 : (k : Int) < 256 := by omega
      obtain ⟨hI, r2', r3', r4', r5', hbw⟩ := hL
      obtain ⟨⟨cr0, cr1, cr2, cr3⟩, fr0, fr1, fr2, fr3⟩ := r5'.four
      obtain ⟨⟨cb0, cb1, cb2, cb3⟩, _⟩ := r3'.four
      have hr := hI.2.2.2.1
      have SH := fun W : World => shl_use r0 r1 r2 r3 1 (by decide) W hr
      have S1 := vn_shl1 (rs := [r0, r1, r2, r3]) ⟨rfl, hr⟩
      have SL : Limbs4 (shlOf (movedTo [r0, r1, r2, r3] ((1 / 64 : Nat) : Int) 4) (1 % 64)) := shlOf_l4 (movedTo_l4 ⟨rfl, hr⟩ _) _
      generalize shlOf (movedTo [r0, r1, r2, r3] ((1 / 64 : Nat) : Int) 4) (1 % 64) = ss at SH S1 SL
      generalize shlOv [r0, r1, r2, r3] 1 = ov at SH
      obtain ⟨s0, s1, s2, s3, rfl⟩ := list4 SL.1
      have SHU : Shut (∀ W : World, Calls Try.prog 8 #[.agg #[.int .u64 r0, .int .u64 r1, .int .u64 r2, .int .u64 r3], .int .u64 1] W fun e w' => e = .returned (.tuple #[.agg #[.int .u64 s0, .int .u64 s1, .int .u64 s2, .int .u64 s3], .bool ov]) ∧ Below W.heap.size W w') := ⟨SH⟩
      obtain ⟨top, htop⟩ : ∃ top : Bool, top = decide (2 ^ 255 ≤ vn [r0, r1, r2, r3] 4) := ⟨_, rfl⟩
      have hT : ((r3 : Int) / 9223372036854775808 == 1) = top := by
        have := top_is r0 r1 r2 r3 hr
        rw [htop, Bool.eq_iff_iff, beq_iff_eq, decide_eq_true_iff, ← this]
        omega
      have HI := Shut.mk hI
      have RR := Shut.mk (And.intro r2' (And.intro r3' (And.intro r4' (And.intro r5' hbw))))
      have HS := Shut.mk (And.intro S1 SL)
      have HT := Shut.mk htop
      clear hI r2' r3' r4' r5' hbw hr SH S1 SL htop fr0 fr1 fr2 fr3
      go_wp2_with fail
      refine (SHU.out _).mono ?_
      rintro e w2 ⟨rfl, hb⟩
      have q2 := RR.out.1.below hb
      have q3 := RR.out.2.1.below hb
      have q4 := RR.out.2.2.1.below hb
      have q5 := RR.out.2.2.2.1.below hb
      have qb := below3 RR.out.2.2.2.2 hb
      obtain ⟨_, fr0, fr1, fr2, fr3⟩ := q5.four
      have p2 := Shut.mk (q2.far4 (G := (w.heap.size + 1 + 1 + 1)) (by omega) (.int .u64 s0) (.int .u64 s1) (.int .u64 s2) (.int .u64 s3))
      have p3 := Shut.mk (q3.far4 (G := (w.heap.size + 1 + 1 + 1)) (by omega) (.int .u64 s0) (.int .u64 s1) (.int .u64 s2) (.int .u64 s3))
      have p4 := Shut.mk (q4.far4 (G := (w.heap.size + 1 + 1 + 1)) (by omega) (.int .u64 s0) (.int .u64 s1) (.int .u64 s2) (.int .u64 s3))
      have p5 := Shut.mk (q5.put4 s0 s1 s2 s3)
      have pb := Shut.mk (below_put4 qb (G := (w.heap.size + 1 + 1 + 1)) (by omega) (.int .u64 s0) (.int .u64 s1) (.int .u64 s2) (.int .u64 s3))
      clear q2 q3 q4 q5 qb hb RR cr0 cr1 cr2 cr3 cb0 cb1 cb2 cb3
      go_wp2_with fail
      clear hT
      generalize (((w2.setCell ⟨(w.heap.size + 1 + 1 + 1), 0, none⟩ (.int .u64 s0)).setCell ⟨(w.heap.size + 1 + 1 + 1), 1, none⟩ (.int .u64 s1)).setCell ⟨(w.heap.size + 1 + 1 + 1), 2, none⟩ (.int .u64 s2)).setCell ⟨(w.heap.size + 1 + 1 + 1), 3, none⟩ (.int .u64 s3) = wA at *
      obtain ⟨j, hj⟩ : ∃ j, j = k / 64 := ⟨_, rfl⟩
      obtain ⟨rr, hrr⟩ : ∃ rr, rr = k % 64 := ⟨_, rfl⟩
      have hj1 : (k : Int) / 64 = (j : Int) := by omega
      have hr1 : (k : Int) % 64 = (rr : Int) := by omega
      have hj4 : j < 4 := by omega
      have hj5 : (j : Int) < 4 := by omega
      have hrl : rr < 64 := by omega
      have cx := p2.out.u64 (k := j) (show j < 4 from hj4)
      obtain ⟨⟨c0, c1, c2, c3⟩, f0, f1, f2, f3⟩ := p5.out.four
      have hxl : [a0, a1, a2, a3].getD j 0 < 18446744073709551616 := getD_lt HA.out j
      have hbt : [a0, a1, a2, a3].getD j 0 / 2 ^ rr % 2 = vn [a0, a1, a2, a3] 4 / 2 ^ k % 2 := by rw [hj, hrr]; exact DivI.bit (show k < 256 by omega)
      have UP := Shut.mk (rest_up HI.out HS.out.2.2 HS.out.2.1 HS.out.1 hbt)
      have hA := and_bit ([a0, a1, a2, a3].getD j 0) rr hxl
      have hs0 : s0 < 18446744073709551616 := HS.out.2.2 s0 (by simp)
      have hO := or_u64 s0 ([a0, a1, a2, a3].getD j 0 / 2 ^ rr % 2) hs0 (by omega)
      have UQ : Shut ((∀ x ∈ [s0 ||| ([a0, a1, a2, a3].getD j 0 / 2 ^ rr % 2), s1, s2, s3], x < 18446744073709551616) ∧ vn [s0 ||| ([a0, a1, a2, a3].getD j 0 / 2 ^ rr % 2), s1, s2, s3] 4 = vn [r0, r1, r2, r3] 4 * 2 % 2 ^ 256 + vn [a0, a1, a2, a3] 4 / 2 ^ k % 2) := ⟨by rw [← hbt]; exact ⟨UP.out.1, UP.out.2.2⟩⟩
      have HJ := Shut.mk (And.intro hj (And.intro hrr (And.intro hj4 hrl)))
      clear UP hbt hj hrr
      generalize [a0, a1, a2, a3].getD j 0 / 2 ^ rr % 2 = t at *
      generalize [a0, a1, a2, a3].getD j 0 = x at *
      generalize s0 ||| t = z0 at *
      clear hxl hs0
      have m2 := Shut.mk (p2.out.far (p := ⟨(w.heap.size + 1 + 1 + 1), 0, none⟩) (by first | (simp; done) | (simp; omega)) (.int .u64 (z0 : Nat))).drew
      have m3 := Shut.mk (p3.out.far (p := ⟨(w.heap.size + 1 + 1 + 1), 0, none⟩) (by first | (simp; done) | (simp; omega)) (.int .u64 (z0 : Nat))).drew
      have m4 := Shut.mk (p4.out.far (p := ⟨(w.heap.size + 1 + 1 + 1), 0, none⟩) (by first | (simp; done) | (simp; omega)) (.int .u64 (z0 : Nat))).drew
      have m5 : Shut (RowAt (wA.setCell ⟨(w.heap.size + 1 + 1 + 1), 0, none⟩ (.int .u64 (z0 : Nat))).drew 24 (w.heap.size + 1 + 1 + 1) 4 (U [z0, s1, s2, s3])) := ⟨by
        have := p5.out.set_ 0 (.int .u64 (z0 : Nat))
        rw [U_set] at this
        exact this.drew⟩
      have mb : Shut (Below w.heap.size w (wA.setCell ⟨(w.heap.size + 1 + 1 + 1), 0, none⟩ (.int .u64 (z0 : Nat))).drew) := ⟨below_drewN (pb.out.setCell (p := ⟨(w.heap.size + 1 + 1 + 1), 0, none⟩) (by first | (simp; done) | (simp; omega)) (.int .u64 (z0 : Nat))) 1⟩
      clear p2 p3 p4 p5 pb HS
      go_region
      clear hj1 hr1 cx c0 c1 c2 c3 f0 f1 f2 f3 hA hO
      generalize hW : (wA.setCell ⟨(w.heap.size + 1 + 1 + 1), 0, none⟩ (.int .u64 (z0 : Nat))).drew = wB at *
      have KEEP : Shut (top = false → vn [z0, s1, s2, s3] 4 < vn [b0, b1, b2, b3] 4 → DivI (vn [a0, a1, a2, a3] 4) (vn [b0, b1, b2, b3] 4) k qs [z0, s1, s2, s3]) := ⟨fun h1 h2 => HI.out.keep UQ.out.1 rfl UQ.out.2 (by rw [HT.out] at h1; exact of_decide_eq_false h1) h2⟩
      obtain ⟨ds, hds⟩ : ∃ ds, ds = fillOn [0, 0, 0, 0] (limbAt subOf [z0, s1, s2, s3] [b0, b1, b2, b3]) 4 := ⟨_, rfl⟩
      obtain ⟨bo, hbo⟩ : ∃ bo : Bool, bo = decide (carryAt subOf [z0, s1, s2, s3] [b0, b1, b2, b3] 4 ≠ 0) := ⟨_, rfl⟩
      have SB := fun W : World => sub256_any z0 s1 s2 s3 b0 b1 b2 b3 ds bo hds hbo W UQ.out.1 HB.out.1
      have hdl : ds.length = 4 := by rw [hds]; exact fillOn_len _ _ _
      have hdu : ∀ x ∈ ds, x < 18446744073709551616 := by rw [hds]; exact fillOn_lt _ _ (by intro x hx; simp at hx; omega) (limb_lt_sub _ _) 4
      have hdv := sub_vn [z0, s1, s2, s3] [b0, b1, b2, b3] ds (getD_lt UQ.out.1) (getD_lt HB.out.1) (getD_lt hdu) 4 (fun j hj => by
        rw [hds, fillOn_get [0, 0, 0, 0] _ 4 j (Nat.le_refl 4), if_pos hj]) 4 (Nat.le_refl 4)
      have hcl := carry_le_sub [z0, s1, s2, s3] [b0, b1, b2, b3] 4
      have TAKE : Shut ((top = true ∨ vn [b0, b1, b2, b3] 4 ≤ vn [z0, s1, s2, s3] 4) → DivI (vn [a0, a1, a2, a3] 4) (vn [b0, b1, b2, b3] 4) k (qs.set (k / 64) (qs.getD (k / 64) 0 ||| 2 ^ (k % 64))) ds) := ⟨fun h1 => HI.out.take (show k < 256 by omega) HB.out.2 hdu hdl UQ.out.2 (h1.imp (fun h => by rw [HT.out] at h; exact of_decide_eq_true h) id) hdv hcl⟩
      obtain ⟨d0, d1, d2, d3, rfl⟩ := list4 hdl
      have SBB : Shut (∀ W : World, Calls Try.prog 15 #[.agg #[.int .u64 z0, .int .u64 s1, .int .u64 s2, .int .u64 s3], .agg #[.int .u64 b0, .int .u64 b1, .int .u64 b2, .int .u64 b3]] W fun e w' => e = .returned (.tuple #[.agg #[.int .u64 d0, .int .u64 d1, .int .u64 d2, .int .u64 d3], .bool bo]) ∧ Below W.heap.size W w') := ⟨SB⟩
      obtain ⟨cr, hcr⟩ : ∃ cr, cr = cmpTo [z0, s1, s2, s3] [b0, b1, b2, b3] 4 := ⟨_, rfl⟩
      have CMP : Shut (∀ W : World, Calls Try.prog 19 #[.agg #[.int .u64 z0, .int .u64 s1, .int .u64 s2, .int .u64 s3], .agg #[.int .u64 b0, .int .u64 b1, .int .u64 b2, .int .u64 b3]] W fun e w' => e = .returned (.int .i64 cr) ∧ Below W.heap.size W w') := ⟨fun W => cmp256_any z0 s1 s2 s3 b0 b1 b2 b3 cr hcr W⟩
      have hcv : cr = cmpOf (vn [z0, s1, s2, s3] 4) (vn [b0, b1, b2, b3] 4) := hcr.trans (close_cmp _ _ UQ.out.1 HB.out.1 4 256 rfl)
      have CR : Shut ((cr ≥ 0 ∧ vn [b0, b1, b2, b3] 4 ≤ vn [z0, s1, s2, s3] 4) ∨ (¬ cr ≥ 0 ∧ vn [z0, s1, s2, s3] 4 < vn [b0, b1, b2, b3] 4)) := ⟨by
        rw [hcv]; unfold cmpOf
        by_cases h : vn [z0, s1, s2, s3] 4 < vn [b0, b1, b2, b3] 4
        · rw [if_pos h]; exact .inr ⟨by decide, h⟩
        · rw [if_neg h]
          refine .inl ⟨?_, Nat.not_lt.1 h⟩
          split <;> decide⟩
      obtain ⟨⟨cz0, cz1, cz2, cz3⟩, fz0, fz1, fz2, fz3⟩ := m5.out.four
      obtain ⟨⟨cb0, cb1, cb2, cb3⟩, _⟩ := m3.out.four
      clear hds hbo SB hdu hdv hcl hcr hcv hdl
      cases top
      · rcases CR.out with ⟨h1, h2⟩ | ⟨h1, h2⟩
        · have T := Shut.mk (TAKE.out (.inr h2))
          clear h2 TAKE KEEP CR
          go_wp2_with fail
          refine (CMP.out _).mono ?_
          rintro e w3 ⟨rfl, hb⟩
          have n2 := Shut.mk (m2.out.below hb)
          have n3 := Shut.mk (m3.out.below hb)
          have n4 := Shut.mk (m4.out.below hb)
          have n5 := Shut.mk (m5.out.below hb)
          have nb := Shut.mk (below3 mb.out hb)
          clear hb cz0 cz1 cz2 cz3 fz0 fz1 fz2 fz3 cb0 cb1 cb2 cb3 m2 m3 m4 m5 mb
          obtain ⟨⟨cz0, cz1, cz2, cz3⟩, fz0, fz1, fz2, fz3⟩ := n5.out.four
          obtain ⟨⟨cb0, cb1, cb2, cb3⟩, _⟩ := n3.out.four
          go_wp2_with fail
          refine (SBB.out _).mono ?_
          rintro e w4 ⟨rfl, hb⟩
          have q2 := n2.out.below hb
          have q3 := n3.out.below hb
          have q4 := n4.out.below hb
          have q5 := n5.out.below hb
          have qb := below3 nb.out hb
          clear cz0 cz1 cz2 cz3 fz0 fz1 fz2 fz3 cb0 cb1 cb2 cb3 n2 n3 n4 n5 nb hb
          obtain ⟨_, fr0, fr1, fr2, fr3⟩ := q5.four
          have p2 := Shut.mk (q2.far4 (G := (w.heap.size + 1 + 1 + 1)) (by omega) (.int .u64 d0) (.int .u64 d1) (.int .u64 d2) (.int .u64 d3))
          have p3 := Shut.mk (q3.far4 (G := (w.heap.size + 1 + 1 + 1)) (by omega) (.int .u64 d0) (.int .u64 d1) (.int .u64 d2) (.int .u64 d3))
          have p4 := Shut.mk (q4.far4 (G := (w.heap.size + 1 + 1 + 1)) (by omega) (.int .u64 d0) (.int .u64 d1) (.int .u64 d2) (.int .u64 d3))
          have p5 := Shut.mk (q5.put4 d0 d1 d2 d3)
          have pb := Shut.mk (below_put4 qb (G := (w.heap.size + 1 + 1 + 1)) (by omega) (.int .u64 d0) (.int .u64 d1) (.int .u64 d2) (.int .u64 d3))
          clear q2 q3 q4 q5 qb
          go_wp2_with fail
          clear fr0 fr1 fr2 fr3
          generalize (((w4.setCell ⟨(w.heap.size + 1 + 1 + 1), 0, none⟩ (.int .u64 d0)).setCell ⟨(w.heap.size + 1 + 1 + 1), 1, none⟩ (.int .u64 d1)).setCell ⟨(w.heap.size + 1 + 1 + 1), 2, none⟩ (.int .u64 d2)).setCell ⟨(w.heap.size + 1 + 1 + 1), 3, none⟩ (.int .u64 d3) = wC at *
          have cq := p4.out.u64 (k := j) (by rw [HI.out.1]; exact HJ.out.2.2.1)
          have fq := p4.out.frozen j
          have hj1 : (k : Int) / 64 = (j : Int) := by have := HJ.out.1; omega
          have hr1 : (k : Int) % 64 = (rr : Int) := by have := HJ.out.2.1; omega
          have hj5 : (j : Int) < 4 := by have := HJ.out.2.2.1; omega
          obtain ⟨p, hp⟩ : ∃ p, p = 2 ^ rr := ⟨_, rfl⟩
          have hpl : p < 18446744073709551616 := by rw [hp]; exact pow_lt64 HJ.out.2.2.2
          have hwp := wrap_pow rr p hp hpl
          have hO := or_u64 (qs.getD j 0) p (getD_lt HI.out.2.2.1 j) hpl
          have T2 : Shut (DivI (vn [a0, a1, a2, a3] 4) (vn [b0, b1, b2, b3] 4) k (qs.set j (qs.getD j 0 ||| p)) [d0, d1, d2, d3]) := ⟨by
            have := T.out
            rwa [← HJ.out.1, ← HJ.out.2.1, ← hp] at this⟩
          generalize qs.getD j 0 ||| p = O at *
          generalize qs.getD j 0 = y at *
          have m2 := Shut.mk (p2.out.far (p := ⟨(w.heap.size + 1 + 1), j, none⟩) (by first | (simp; done) | (simp; omega)) (.int .u64 (O : Nat))).drew
          have m3 := Shut.mk (p3.out.far (p := ⟨(w.heap.size + 1 + 1), j, none⟩) (by first | (simp; done) | (simp; omega)) (.int .u64 (O : Nat))).drew
          have m4 : Shut (RowAt (wC.setCell ⟨(w.heap.size + 1 + 1), j, none⟩ (.int .u64 (O : Nat))).drew 24 (w.heap.size + 1 + 1) 4 (U (qs.set j O))) := ⟨by
            have := p4.out.set_ j (.int .u64 (O : Nat))
            rw [U_set] at this
            exact this.drew⟩
          have m5 := Shut.mk (p5.out.far (p := ⟨(w.heap.size + 1 + 1), j, none⟩) (by first | (simp; done) | (simp; omega)) (.int .u64 (O : Nat))).drew
          have mb : Shut (Below w.heap.size w (wC.setCell ⟨(w.heap.size + 1 + 1), j, none⟩ (.int .u64 (O : Nat))).drew) := ⟨below_drewN (pb.out.setCell (p := ⟨(w.heap.size + 1 + 1), j, none⟩) (by first | (simp; done) | (simp; omega)) (.int .u64 (O : Nat))) 1⟩
          have HKN := Shut.mk hk
          clear p2 p3 p4 p5 pb hp hpl T hk
          go_region
          clear hj1 hr1 cq fq hwp hO
          go_wp2_with fail
          go_roundw
          case rel => exact ⟨k, d0, d1, d2, d3, _, by have := HKN.out; omega, rfl, T2.out, m2.out, m3.out, m4.out, m5.out, mb.out⟩
          case measure => simp [intOf]
        · have T := Shut.mk (KEEP.out rfl h2)
          clear h2 TAKE KEEP CR
          have HKN := Shut.mk hk
          go_wp2_with fail
          refine (CMP.out _).mono ?_
          rintro e w3 ⟨rfl, hb⟩
          have n2 := Shut.mk (m2.out.below hb)
          have n3 := Shut.mk (m3.out.below hb)
          have n4 := Shut.mk (m4.out.below hb)
          have n5 := Shut.mk (m5.out.below hb)
          have nb := Shut.mk (below3 mb.out hb)
          clear hb cz0 cz1 cz2 cz3 fz0 fz1 fz2 fz3 cb0 cb1 cb2 cb3 m2 m3 m4 m5 mb hk
          go_wp2_with fail
          go_roundw
          case rel => exact ⟨k, z0, s1, s2, s3, _, by have := HKN.out; omega, rfl, T.out, n2.out, n3.out, n4.out, n5.out, nb.out⟩
          case measure => simp [intOf]
      · have T := Shut.mk (TAKE.out (.inl rfl))
        clear TAKE KEEP CR
        go_wp2_with fail
        refine (SBB.out _).mono ?_
        rintro e w4 ⟨rfl, hb⟩
        have q2 := m2.out.below hb
        have q3 := m3.out.below hb
        have q4 := m4.out.below hb
        have q5 := m5.out.below hb
        have qb := below3 mb.out hb
        clear cz0 cz1 cz2 cz3 fz0 fz1 fz2 fz3 cb0 cb1 cb2 cb3 m2 m3 m4 m5 mb hb
        obtain ⟨_, fr0, fr1, fr2, fr3⟩ := q5.four
        have p2 := Shut.mk (q2.far4 (G := (w.heap.size + 1 + 1 + 1)) (by omega) (.int .u64 d0) (.int .u64 d1) (.int .u64 d2) (.int .u64 d3))
        have p3 := Shut.mk (q3.far4 (G := (w.heap.size + 1 + 1 + 1)) (by omega) (.int .u64 d0) (.int .u64 d1) (.int .u64 d2) (.int .u64 d3))
        have p4 := Shut.mk (q4.far4 (G := (w.heap.size + 1 + 1 + 1)) (by omega) (.int .u64 d0) (.int .u64 d1) (.int .u64 d2) (.int .u64 d3))
        have p5 := Shut.mk (q5.put4 d0 d1 d2 d3)
        have pb := Shut.mk (below_put4 qb (G := (w.heap.size + 1 + 1 + 1)) (by omega) (.int .u64 d0) (.int .u64 d1) (.int .u64 d2) (.int .u64 d3))
        clear q2 q3 q4 q5 qb
        go_wp2_with fail
        clear fr0 fr1 fr2 fr3
        generalize (((w4.setCell ⟨(w.heap.size + 1 + 1 + 1), 0, none⟩ (.int .u64 d0)).setCell ⟨(w.heap.size + 1 + 1 + 1), 1, none⟩ (.int .u64 d1)).setCell ⟨(w.heap.size + 1 + 1 + 1), 2, none⟩ (.int .u64 d2)).setCell ⟨(w.heap.size + 1 + 1 + 1), 3, none⟩ (.int .u64 d3) = wC at *
        have cq := p4.out.u64 (k := j) (by rw [HI.out.1]; exact HJ.out.2.2.1)
        have fq := p4.out.frozen j
        have hj1 : (k : Int) / 64 = (j : Int) := by have := HJ.out.1; omega
        have hr1 : (k : Int) % 64 = (rr : Int) := by have := HJ.out.2.1; omega
        have hj5 : (j : Int) < 4 := by have := HJ.out.2.2.1; omega
        obtain ⟨p, hp⟩ : ∃ p, p = 2 ^ rr := ⟨_, rfl⟩
        have hpl : p < 18446744073709551616 := by rw [hp]; exact pow_lt64 HJ.out.2.2.2
        have hwp := wrap_pow rr p hp hpl
        have hO := or_u64 (qs.getD j 0) p (getD_lt HI.out.2.2.1 j) hpl
        have T2 : Shut (DivI (vn [a0, a1, a2, a3] 4) (vn [b0, b1, b2, b3] 4) k (qs.set j (qs.getD j 0 ||| p)) [d0, d1, d2, d3]) := ⟨by
          have := T.out
          rwa [← HJ.out.1, ← HJ.out.2.1, ← hp] at this⟩
        generalize qs.getD j 0 ||| p = O at *
        generalize qs.getD j 0 = y at *
        have m2 := Shut.mk (p2.out.far (p := ⟨(w.heap.size + 1 + 1), j, none⟩) (by first | (simp; done) | (simp; omega)) (.int .u64 (O : Nat))).drew
        have m3 := Shut.mk (p3.out.far (p := ⟨(w.heap.size + 1 + 1), j, none⟩) (by first | (simp; done) | (simp; omega)) (.int .u64 (O : Nat))).drew
        have m4 : Shut (RowAt (wC.setCell ⟨(w.heap.size + 1 + 1), j, none⟩ (.int .u64 (O : Nat))).drew 24 (w.heap.size + 1 + 1) 4 (U (qs.set j O))) := ⟨by
          have := p4.out.set_ j (.int .u64 (O : Nat))
          rw [U_set] at this
          exact this.drew⟩
        have m5 := Shut.mk (p5.out.far (p := ⟨(w.heap.size + 1 + 1), j, none⟩) (by first | (simp; done) | (simp; omega)) (.int .u64 (O : Nat))).drew
        have mb : Shut (Below w.heap.size w (wC.setCell ⟨(w.heap.size + 1 + 1), j, none⟩ (.int .u64 (O : Nat))).drew) := ⟨below_drewN (pb.out.setCell (p := ⟨(w.heap.size + 1 + 1), j, none⟩) (by first | (simp; done) | (simp; omega)) (.int .u64 (O : Nat))) 1⟩
        have HKN := Shut.mk hk
        clear p2 p3 p4 p5 pb hp hpl T hk
        go_region
        clear hj1 hr1 cq fq hwp hO
        go_wp2_with fail
        go_roundw
        case rel => exact ⟨k, d0, d1, d2, d3, _, by have := HKN.out; omega, rfl, T2.out, m2.out, m3.out, m4.out, m5.out, mb.out⟩
        case measure => simp [intOf]

set_option maxRecDepth 100000 in
set_option maxHeartbeats 4000000 in
/-- Division by nought. -/
theorem divmod_zero (a0 a1 a2 a3 : Nat) (w : World) :
    Calls Try.prog 28 #[.agg #[.int .u64 a0, .int .u64 a1, .int .u64 a2, .int .u64 a3], .agg #[.int .u64 0, .int .u64 0, .int .u64 0, .int .u64 0]] w fun e w' => e = .returned (.tuple #[.agg #[.int .u64 0, .int .u64 0, .int .u64 0, .int .u64 0], .agg #[.int .u64 0, .int .u64 0, .int .u64 0, .int .u64 0], .bool true]) ∧ Below w.heap.size w w' := by
  have R3' := ((RowAt.arr (w.alloc (.cells #[.int .u64 a0, .int .u64 a1, .int .u64 a2, .int .u64 a3] 24)) 24 [0, 0, 0, 0] (show 4 < 1000000 by decide)).alloc (.cells #[.int .u64 0, .int .u64 0, .int .u64 0, .int .u64 0] 24)).alloc (.cells #[.int .u64 0, .int .u64 0, .int .u64 0, .int .u64 0] 24)
  have R4' := (RowAt.arr ((w.alloc (.cells #[.int .u64 a0, .int .u64 a1, .int .u64 a2, .int .u64 a3] 24)).alloc (.cells #[.int .u64 0, .int .u64 0, .int .u64 0, .int .u64 0] 24)) 24 [0, 0, 0, 0] (by decide)).alloc (.cells #[.int .u64 0, .int .u64 0, .int .u64 0, .int .u64 0] 24)
  have R5' := RowAt.arr (((w.alloc (.cells #[.int .u64 a0, .int .u64 a1, .int .u64 a2, .int .u64 a3] 24)).alloc (.cells #[.int .u64 0, .int .u64 0, .int .u64 0, .int .u64 0] 24)).alloc (.cells #[.int .u64 0, .int .u64 0, .int .u64 0, .int .u64 0] 24)) 24 [0, 0, 0, 0] (by decide)
  simp only [World.size_alloc] at R3' R4' R5'
  have R3 : Shut (RowAt ((((w.alloc (.cells #[.int .u64 a0, .int .u64 a1, .int .u64 a2, .int .u64 a3] 24)).alloc (.cells #[.int .u64 0, .int .u64 0, .int .u64 0, .int .u64 0] 24)).alloc (.cells #[.int .u64 0, .int .u64 0, .int .u64 0, .int .u64 0] 24)).alloc (.cells #[.int .u64 0, .int .u64 0, .int .u64 0, .int .u64 0] 24)) 24 (w.heap.size + 1) 4 (U [0, 0, 0, 0])) := ⟨R3'⟩
  have R4 : Shut (RowAt ((((w.alloc (.cells #[.int .u64 a0, .int .u64 a1, .int .u64 a2, .int .u64 a3] 24)).alloc (.cells #[.int .u64 0, .int .u64 0, .int .u64 0, .int .u64 0] 24)).alloc (.cells #[.int .u64 0, .int .u64 0, .int .u64 0, .int .u64 0] 24)).alloc (.cells #[.int .u64 0, .int .u64 0, .int .u64 0, .int .u64 0] 24)) 24 (w.heap.size + 1 + 1) 4 (U [0, 0, 0, 0])) := ⟨R4'⟩
  have R5 : Shut (RowAt ((((w.alloc (.cells #[.int .u64 a0, .int .u64 a1, .int .u64 a2, .int .u64 a3] 24)).alloc (.cells #[.int .u64 0, .int .u64 0, .int .u64 0, .int .u64 0] 24)).alloc (.cells #[.int .u64 0, .int .u64 0, .int .u64 0, .int .u64 0] 24)).alloc (.cells #[.int .u64 0, .int .u64 0, .int .u64 0, .int .u64 0] 24)) 24 (w.heap.size + 1 + 1 + 1) 4 (U [0, 0, 0, 0])) := ⟨R5'⟩
  have B0 := Shut.mk (((((Below.refl w.heap.size w).alloc (Nat.le_refl _) (.cells #[.int .u64 a0, .int .u64 a1, .int .u64 a2, .int .u64 a3] 24)).alloc (by simp) (.cells #[.int .u64 0, .int .u64 0, .int .u64 0, .int .u64 0] 24)).alloc (by simp; omega) (.cells #[.int .u64 0, .int .u64 0, .int .u64 0, .int .u64 0] 24)).alloc (by simp; omega) (.cells #[.int .u64 0, .int .u64 0, .int .u64 0, .int .u64 0] 24))
  have EQ : ∀ W : World, (Op.equalIn 10000 24 (.agg #[.int .u64 0, .int .u64 0, .int .u64 0, .int .u64 0]) (.agg #[.int .u64 0, .int .u64 0, .int .u64 0, .int .u64 0])).run Try.prog W = .ok true W := fun W => run_eq_arr 24 4 Try.underlying24 [0, 0, 0, 0] [0, 0, 0, 0] rfl rfl 9998 W
  obtain ⟨⟨cb0, cb1, cb2, cb3⟩, _⟩ := R3.out.four
  obtain ⟨⟨cq0, cq1, cq2, cq3⟩, fq0, fq1, fq2, fq3⟩ := R4.out.four
  obtain ⟨⟨cr0, cr1, cr2, cr3⟩, fr0, fr1, fr2, fr3⟩ := R5.out.four
  clear R3' R4' R5' R3 R4 R5
  go_enter Try.func28, Try.ntmps28
  go_wp2_with fail
  refine bodyPost_ret (v := .tuple #[.agg #[.int .u64 0, .int .u64 0, .int .u64 0, .int .u64 0], .agg #[.int .u64 0, .int .u64 0, .int .u64 0, .int .u64 0], .bool true]) (by simp [results, Try.results28, go_sem, cr0, cr1, cr2, cr3, cq0, cq1, cq2, cq3]) rfl ⟨rfl, ?_⟩
  exact B0.out

set_option maxRecDepth 100000 in
theorem div128_zero (a0 a1 : Nat) (w : World) :
    Calls Try.prog 29 #[.agg #[.int .u64 a0, .int .u64 a1], .int .u64 0] w fun e w' => e = .returned (.tuple #[.agg #[.int .u64 0, .int .u64 0], .int .u64 0, .bool true]) ∧ Below w.heap.size w w' := by
  have B0 := Shut.mk (((Below.refl w.heap.size w).alloc (Nat.le_refl _) (.cells #[.int .u64 a0, .int .u64 a1] 54)).alloc (by simp) (.cells #[.int .u64 0, .int .u64 0] 54))
  have RZ' := RowAt.arr (w.alloc (.cells #[.int .u64 a0, .int .u64 a1] 54)) 54 [0, 0] (by decide)
  rw [World.size_alloc] at RZ'
  have RZ : Shut (RowAt ((w.alloc (.cells #[.int .u64 a0, .int .u64 a1] 54)).alloc (.cells #[.int .u64 0, .int .u64 0] 54)) 54 (w.heap.size + 1) 2 (U [0, 0])) := ⟨RZ'⟩
  have z0 := RZ.out.u64 (k := 0) (show 0 < 2 by decide)
  have z1 := RZ.out.u64 (k := 1) (show 1 < 2 by decide)
  have f0 := RZ.out.frozen 0
  have f1 := RZ.out.frozen 1
  clear RZ'
  go_enter Try.func29, Try.ntmps29
  go_wp2_with fail
  refine bodyPost_ret (v := .tuple #[.agg #[.int .u64 0, .int .u64 0], .int .u64 0, .bool true]) (by simp [results, Try.results29, go_sem, z0, z1]) rfl ⟨rfl, ?_⟩
  exact B0.out

end Go.Proofs.Ytdgklodhgbbdjaa
