/- The walk of the law CountRises. -/
import Derived.Test.YtnnpfmelfhgdcaaCountX
import Derived.Test.YtnnpfmelfhgdcaaLog2N
namespace Go.Proofs.Ytnnpfmelfhgdcaa
set_option linter.unusedVariables false
open Go.RowKit Go.Shelf

theorem Ct.gain_rises (a b a' b' : Nat) (h1 : a ≤ a') (h2 : b' ≤ b) (h3 : b' ≠ 0) (h4 : b < a) (ha : a' < 18446744073709551616) : Ct.gain a b ≤ Ct.gain a' b' := by
  have e1 := L2.lo_rises a a' h1 ha
  have e2 := L2.hi_rises b' b h2 (by omega)
  unfold Ct.gain
  rw [if_neg (by omega), if_neg (by omega)]
  omega

theorem Ct.passes_rises (a b s n a' b' s' n' : Nat) (h1 : a ≤ a') (h2 : b' ≤ b) (h3 : b' ≠ 0) (h4 : s' ≤ s) (h5 : n ≤ n') (ha : a' < 18446744073709551616) (hp : Ct.passes a b s n = true) : Ct.passes a' b' s' n' = true := by
  unfold Ct.passes at *
  rw [decide_eq_true_eq] at *
  obtain ⟨p1, p2, p3⟩ := hp
  have hg := Ct.gain_rises a b a' b' h1 h2 h3 p2 ha
  exact ⟨h3, by omega, Nat.le_trans (Nat.mul_le_mul_right _ h4) (Nat.le_trans p3 (Nat.mul_le_mul h5 hg))⟩

/-- A block is known whole. -/
def Laid (W : World) (g : Nat) (t : TypeId) (cs : Array Value) : Prop := W.heap[g]? = some (.cells cs t (0, 0))
theorem Laid.lt {W : World} {g : Nat} {t : TypeId} {cs : Array Value} (h : Laid W g t cs) : g < W.heap.size := (Array.getElem?_eq_some_iff.1 h).1
theorem Laid.cell {W : World} {g : Nat} {t : TypeId} {cs : Array Value} (h : Laid W g t cs) (i : Nat) : W.cell? ⟨g, i, none⟩ = cs[i]? := by
  simp [World.cell?, show W.heap[g]? = _ from h]
theorem Laid.below {W W' : World} {g : Nat} {t : TypeId} {cs : Array Value} (h : Laid W g t cs) (hb : Below W.heap.size W W') : Laid W' g t cs := (hb.block _ h.lt).trans h
theorem Laid.new (W : World) (t : TypeId) (cs : Array Value) : Laid (W.alloc (.cells cs t)) W.heap.size t cs := World.alloc_heap_new W _
theorem Laid.alloc {W : World} {g : Nat} {t : TypeId} {cs : Array Value} (h : Laid W g t cs) (o : Obj) : Laid (W.alloc o) g t cs := (Below.heap_alloc W o g h.lt).trans h
theorem Laid.drewN {W : World} {g : Nat} {t : TypeId} {cs : Array Value} (h : Laid W g t cs) (n : Nat) : Laid (W.drewN n) g t cs := h

theorem nat_of_u32 {a : Int} (h : (Lit.int .u32 a).wf = true) : ∃ x : Nat, a = (x : Int) ∧ x < 4294967296 := by
  have h1 : IntKind.u32.min = 0 := by decide +kernel
  have h2 : IntKind.u32.max = 4294967295 := by decide +kernel
  simp [Lit.wf, h1, h2] at h
  exact ⟨a.toNat, by omega, by omega⟩

set_option maxRecDepth 100000 in
set_option maxHeartbeats 1000000 in
theorem rises_no (a b s m0 m1 m2 m3 : Nat) (w : World) (hm : m0 < 4294967296)
    (C1 : Shut (∀ w, Calls Try.prog 12 #[.int .u64 a, .int .u64 b, .int .u64 s, .int .i64 ((m0 : Int) % 100000)] w fun e w' => e = .returned (.bool false) ∧ Below w.heap.size w w')) :
    Calls Try.prog 6 #[.agg #[.int .u64 a, .int .u64 b], .int .u64 s, .agg #[.int .u32 m0, .int .u32 m1, .int .u32 m2, .int .u32 m3]] w fun e w' => e = .returned (.bool true) ∧ Below w.heap.size w w' := by
  have A1 := Shut.mk (((Below.refl w.heap.size w).alloc (Nat.le_refl _) (.cells #[.int .u64 (a : Int), .int .u64 (b : Int)] 23)).alloc (by simp) (.cells #[.int .u32 (m0 : Int), .int .u32 (m1 : Int), .int .u32 (m2 : Int), .int .u32 (m3 : Int)] 38))
  go_enter Try.func6, Try.ntmps6
  go_wp2_with fail
  refine (works17_any _).mono ?_
  rintro e w1 ⟨rfl, hb1⟩
  obtain ⟨c1, f1⟩ := bcell hb1
  have hz := hb1.size
  go_wp2_with fail
  go_quiet (fail)
  go_wp2_with fail
  refine (C1.out _).mono ?_
  rintro e w2 ⟨rfl, hb2⟩
  go_wp2_with fail
  go_ret
  exact ⟨rfl, below3 (below_drewN (below3 A1.out hb1) nq) hb2⟩

set_option maxRecDepth 100000 in
set_option maxHeartbeats 1000000 in
theorem rises_yes (a b s m0 m1 m2 m3 h l t : Nat) (w : World) (hm : m0 < 4294967296) (hm1 : m1 < 4294967296) (hm2 : m2 < 4294967296) (hm3 : m3 < 4294967296) (ha : a < 18446744073709551616) (hb : b < 18446744073709551616) (hs : s < 18446744073709551616) (hb0 : 1 ≤ b)
    (E1 : Shut ((h : Int) = if IntKind.u64.wrap ((a : Int) + (m1 : Int)) < (a : Int) then (a : Int) else IntKind.u64.wrap ((a : Int) + (m1 : Int))))
    (E2 : Shut ((l : Int) = (b : Int) - min ((b : Int) - 1) (m2 : Int))) (E3 : Shut ((t : Int) = (s : Int) - min (s : Int) (m3 : Int)))
    (C1 : Shut (∀ w, Calls Try.prog 12 #[.int .u64 a, .int .u64 b, .int .u64 s, .int .i64 ((m0 : Int) % 100000)] w fun e w' => e = .returned (.bool true) ∧ Below w.heap.size w w'))
    (C2 : Shut (∀ w, Calls Try.prog 12 #[.int .u64 a, .int .u64 b, .int .u64 s, .int .i64 ((m0 : Int) % 100000 + (m1 : Int) % 1000)] w fun e w' => e = .returned (.bool true) ∧ Below w.heap.size w w'))
    (C3 : Shut (∀ w, Calls Try.prog 12 #[.int .u64 h, .int .u64 b, .int .u64 s, .int .i64 ((m0 : Int) % 100000)] w fun e w' => e = .returned (.bool true) ∧ Below w.heap.size w w'))
    (C4 : Shut (∀ w, Calls Try.prog 12 #[.int .u64 a, .int .u64 l, .int .u64 s, .int .i64 ((m0 : Int) % 100000)] w fun e w' => e = .returned (.bool true) ∧ Below w.heap.size w w'))
    (C5 : Shut (∀ w, Calls Try.prog 12 #[.int .u64 a, .int .u64 b, .int .u64 t, .int .i64 ((m0 : Int) % 100000)] w fun e w' => e = .returned (.bool true) ∧ Below w.heap.size w w'))
    (C6 : Shut (∀ w, Calls Try.prog 12 #[.int .u64 h, .int .u64 l, .int .u64 t, .int .i64 ((m0 : Int) % 100000)] w fun e w' => e = .returned (.bool true) ∧ Below w.heap.size w w')) :
    Calls Try.prog 6 #[.agg #[.int .u64 a, .int .u64 b], .int .u64 s, .agg #[.int .u32 m0, .int .u32 m1, .int .u32 m2, .int .u32 m3]] w fun e w' => e = .returned (.bool true) ∧ Below w.heap.size w w' := by
  have A1 := Shut.mk (((Below.refl w.heap.size w).alloc (Nat.le_refl _) (.cells #[.int .u64 (a : Int), .int .u64 (b : Int)] 23)).alloc (by simp) (.cells #[.int .u32 (m0 : Int), .int .u32 (m1 : Int), .int .u32 (m2 : Int), .int .u32 (m3 : Int)] 38))
  have L0 := Shut.mk (show Laid ((w.alloc (.cells #[.int .u64 (a : Int), .int .u64 (b : Int)] 23)).alloc (.cells #[.int .u32 (m0 : Int), .int .u32 (m1 : Int), .int .u32 (m2 : Int), .int .u32 (m3 : Int)] 38)) (w.heap.size + 1) 38 #[.int .u32 (m0 : Int), .int .u32 (m1 : Int), .int .u32 (m2 : Int), .int .u32 (m3 : Int)] by
    have := Laid.new (w.alloc (.cells #[.int .u64 (a : Int), .int .u64 (b : Int)] 23)) 38 #[.int .u32 (m0 : Int), .int .u32 (m1 : Int), .int .u32 (m2 : Int), .int .u32 (m3 : Int)]
    rw [World.size_alloc] at this
    exact this)
  go_enter Try.func6, Try.ntmps6
  go_wp2_with fail
  refine (works17_any _).mono ?_
  rintro e w1 ⟨rfl, hb1⟩
  obtain ⟨c1, f1⟩ := bcell hb1
  have hz := hb1.size
  go_wp2_with fail
  go_quiet (fail)
  go_wp2_with fail
  refine (C1.out _).mono ?_
  rintro e w2 ⟨rfl, hb2⟩
  have L2 := ((L0.out.below hb1).drewN nq).below hb2
  have k1 := L2.cell 1
  have k2 := L2.cell 2
  have k3 := L2.cell 3
  simp only [List.getElem?_toArray, List.getElem?_cons_succ, List.getElem?_cons_zero] at k1 k2 k3
  clear L2 L0 c1 f1
  go_wp2_with fail
  · rw [if_pos (by assumption)] at E1
    obtain rfl : h = a := by have := E1.out; omega
    rw [← E2.out, ← E3.out]
    refine (C2.out _).mono ?_
    rintro e w3 ⟨rfl, hb3⟩
    go_wp2_with fail
    refine (C3.out _).mono ?_
    rintro e w4 ⟨rfl, hb4⟩
    go_wp2_with fail
    refine (C4.out _).mono ?_
    rintro e w5 ⟨rfl, hb5⟩
    go_wp2_with fail
    refine (C5.out _).mono ?_
    rintro e w6 ⟨rfl, hb6⟩
    go_wp2_with fail
    refine (C6.out _).mono ?_
    rintro e w7 ⟨rfl, hb7⟩
    go_wp2_with fail
    go_ret
    exact ⟨rfl, (below3 (below3 (below3 (below3 (below3 (below3 (below_drewN (below3 A1.out hb1) nq) hb2) hb3) hb4) hb5) hb6) hb7)⟩
  · rw [if_neg (by omega)] at E1
    rw [← E1.out, ← E2.out, ← E3.out]
    refine (C2.out _).mono ?_
    rintro e w3 ⟨rfl, hb3⟩
    go_wp2_with fail
    refine (C3.out _).mono ?_
    rintro e w4 ⟨rfl, hb4⟩
    go_wp2_with fail
    refine (C4.out _).mono ?_
    rintro e w5 ⟨rfl, hb5⟩
    go_wp2_with fail
    refine (C5.out _).mono ?_
    rintro e w6 ⟨rfl, hb6⟩
    go_wp2_with fail
    refine (C6.out _).mono ?_
    rintro e w7 ⟨rfl, hb7⟩
    go_wp2_with fail
    go_ret
    exact ⟨rfl, (below3 (below3 (below3 (below3 (below3 (below3 (below_drewN (below3 A1.out hb1) nq) hb2) hb3) hb4) hb5) hb6) hb7)⟩

theorem CountRises_walk (a0 a1 a2 b0 b1 b2 b3 : Int) (w : World) (w0 : (Lit.int .u64 a0).wf = true) (w1 : (Lit.int .u64 a1).wf = true) (w2 : (Lit.int .u64 a2).wf = true)
    (v0 : (Lit.int .u32 b0).wf = true) (v1 : (Lit.int .u32 b1).wf = true) (v2 : (Lit.int .u32 b2).wf = true) (v3 : (Lit.int .u32 b3).wf = true) :
    Calls Try.prog 6 #[.agg #[.int .u64 a0, .int .u64 a1], .int .u64 a2, .agg #[.int .u32 b0, .int .u32 b1, .int .u32 b2, .int .u32 b3]] w fun e w' => e = .returned (.bool true) ∧ Below w.heap.size w w' := by
  obtain ⟨a, rfl, ha⟩ := nat_of_u64 w0
  obtain ⟨b, rfl, hb⟩ := nat_of_u64 w1
  obtain ⟨s, rfl, hs⟩ := nat_of_u64 w2
  obtain ⟨m0, rfl, h0⟩ := nat_of_u32 v0
  obtain ⟨m1, rfl, h1⟩ := nat_of_u32 v1
  obtain ⟨m2, rfl, h2⟩ := nat_of_u32 v2
  obtain ⟨m3, rfl, h3⟩ := nat_of_u32 v3
  have e0 : ((m0 : Int) % 100000) = ((m0 % 100000 : Nat) : Int) := by omega
  have e1 : ((m0 : Int) % 100000 + (m1 : Int) % 1000) = ((m0 % 100000 + m1 % 1000 : Nat) : Int) := by omega
  by_cases hp : Ct.passes a b s (m0 % 100000) = true
  · have hb0 : 1 ≤ b := by
      rcases Nat.eq_zero_or_pos b with h | h
      · rw [passes_no a b s _ (.inl h)] at hp; cases hp
      · exact h
    have mk : ∀ a' b' s' n', a' < 18446744073709551616 → b' < 18446744073709551616 → s' < 18446744073709551616 → n' < 9223372036854775808 → a ≤ a' → b' ≤ b → b' ≠ 0 → s' ≤ s → m0 % 100000 ≤ n' →
        ∀ w, Calls Try.prog 12 #[.int .u64 a', .int .u64 b', .int .u64 s', .int .i64 n'] w fun e w' => e = .returned (.bool true) ∧ Below w.heap.size w w' :=
      fun a' b' s' n' q1 q2 q3 q4 q5 q6 q7 q8 q9 w => Ct.passes_rises a b s _ a' b' s' n' q5 q6 q7 q8 q9 q1 hp ▸ passes_any a' b' s' n' w q1 q2 q3 q4
    refine rises_yes a b s m0 m1 m2 m3 (if (a + m1) % 18446744073709551616 < a then a else (a + m1) % 18446744073709551616) (b - min (b - 1) m2) (s - min s m3) w h0 h1 h2 h3 ha hb hs hb0 ⟨?_⟩ ⟨by omega⟩ ⟨by omega⟩ ⟨?_⟩ ⟨?_⟩ ⟨?_⟩ ⟨?_⟩ ⟨?_⟩ ⟨?_⟩
    · rw [IntKind.wrap_u64]
      split <;> split <;> omega
    · rw [e0]; exact mk _ _ _ _ ha hb hs (by omega) (by omega) (by omega) (by omega) (by omega) (by omega)
    · rw [e1]; exact mk _ _ _ _ ha hb hs (by omega) (by omega) (by omega) (by omega) (by omega) (by omega)
    · rw [e0]; exact mk _ _ _ _ (by split <;> omega) hb hs (by omega) (by split <;> omega) (by omega) (by omega) (by omega) (by omega)
    · rw [e0]; exact mk _ _ _ _ ha (by omega) hs (by omega) (by omega) (by omega) (by omega) (by omega) (by omega)
    · rw [e0]; exact mk _ _ _ _ ha hb (by omega) (by omega) (by omega) (by omega) (by omega) (by omega) (by omega)
    · rw [e0]; exact mk _ _ _ _ (by split <;> omega) (by omega) (by omega) (by omega) (by split <;> omega) (by omega) (by omega) (by omega) (by omega)
  · refine rises_no a b s m0 m1 m2 m3 w h0 ⟨fun w => ?_⟩
    rw [e0]
    have hp' : Ct.passes a b s (m0 % 100000) = false := by simpa using hp
    exact hp' ▸ passes_any a b s (m0 % 100000) w ha hb hs (by omega)

end Go.Proofs.Ytnnpfmelfhgdcaa
