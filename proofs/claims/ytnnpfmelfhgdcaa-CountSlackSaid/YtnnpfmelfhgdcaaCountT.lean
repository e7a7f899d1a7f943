/- Walks: most; times. -/
import Derived.Test.YtnnpfmelfhgdcaaDig
namespace Go.Proofs.Ytnnpfmelfhgdcaa
set_option linter.unusedVariables false
open Go.RowKit Go.Shelf

set_option maxRecDepth 100000 in
set_option maxHeartbeats 1000000 in
theorem most_any (va vb : Value) (N M m n : Nat) (w : World) (ha : Num w va N m) (hb : Num w vb M n) (hm : m ≤ 100000) (hn : n ≤ 100000) :
    Calls Try.prog 17 #[va, vb] w fun e w' => e = .returned (.bool (decide (N ≤ M))) ∧ Below w.heap.size w w' := by
  obtain ⟨g, c, D, rfl, hg, hD, hm1, hmc, hok, hV, hs⟩ := ha
  obtain ⟨g', c', D', rfl, hg', hD', hn1, hnc, hok', hV', hs'⟩ := hb
  have B0 := Below.refl w.heap.size w
  rcases Nat.lt_trichotomy m n with h | h | h
  · have t := Dg.V_longer (A := D) (B := D') hok h hm1 hs'
    rw [hV, hV'] at t
    have e1 : (decide (N ≤ M)) = true := by simp; omega
    rw [e1]
    have h1 : ((m : Int) == (n : Int)) = false := by simp; omega
    have h2 : (m : Int) < (n : Int) := by omega
    clear e1 t hs hs' hV hV' hok hok' hg hg' hD hD'
    go_enter Try.func17, Try.ntmps17
    go_wp2_with fail
    go_ret
    exact ⟨rfl, B0⟩
  · subst h
    have P0 : ∃ k : Nat, k ≤ m ∧ ((m : Int) - 1) = ((k : Int) - 1) ∧ ∀ j, k ≤ j → j < m → D.getD j 0 = D'.getD j 0 := ⟨m, Nat.le_refl _, rfl, fun j h1 h2 => by omega⟩
    have K : Shut ((∀ j, j < m → w.cell? ⟨g, j, none⟩ = some (.int .u32 (D.getD j 0 : Nat))) ∧ (∀ j, j < m → w.cell? ⟨g', j, none⟩ = some (.int .u32 (D'.getD j 0 : Nat)))) :=
      ⟨fun j hj => by rw [hg.cell, Wd_get D j (by omega)], fun j hj => by rw [hg'.cell, Wd_get D' j (by omega)]⟩
    have L1 : Shut (∀ i, i < m → (∀ j, i + 1 ≤ j → j < m → D.getD j 0 = D'.getD j 0) → D.getD i 0 ≠ D'.getD i 0 → decide (N ≤ M) = decide (D.getD i 0 < D'.getD i 0)) := by
      refine ⟨fun i hi hj hne => ?_⟩
      rcases Nat.lt_or_ge (D.getD i 0) (D'.getD i 0) with hl | hl
      · have := Dg.V_lt hok hi hj hl
        rw [hV, hV'] at this
        rw [decide_eq_true hl, decide_eq_true (by omega)]
      · have := Dg.V_lt (A := D') (B := D) hok' hi (fun j h1 h2 => (hj j h1 h2).symm) (by omega)
        rw [hV, hV'] at this
        rw [decide_eq_false (by omega), decide_eq_false (by omega)]
    have L2 : Shut ((∀ j, 0 ≤ j → j < m → D.getD j 0 = D'.getD j 0) → decide (N ≤ M) = true) := by
      refine ⟨fun hj => ?_⟩
      have := Dg.V_eq (A := D) (B := D') (n := m) (fun j h => hj j (Nat.zero_le _) h)
      rw [hV, hV'] at this
      rw [decide_eq_true (by omega)]
    generalize decide (N ≤ M) = r at *
    have hkk : Shut (∀ j, D.getD j 0 < 4294967296 ∧ D'.getD j 0 < 4294967296) := ⟨fun j => ⟨hok j, hok' j⟩⟩
    have gl := hg.lt
    have gl' := hg'.lt
    clear hV hV' hok hok' hg hg' hs hs'
    go_enter Try.func17, Try.ntmps17
    go_wp2_with fail
    go_loopw [5] (fun i wr => (∃ k : Nat, k ≤ m ∧ i = .int .i64 ((k : Int) - 1) ∧ ∀ j, k ≤ j → j < m → D.getD j 0 = D'.getD j 0) ∧ Below w.heap.size w wr) (fun i _ => (intOf i + 1).toNat)
    case atStart => exact ⟨⟨m, Nat.le_refl _, rfl, fun j h1 h2 => by omega⟩, Below.refl _ _⟩
    case round =>
      obtain ⟨⟨k, hk, hi, hj⟩, hbw⟩ := hrel
      rcases k with _ | k
      · have E0 := Shut.mk (L2.out (fun j _ h => hj j (Nat.zero_le _) h))
        rw [show (((0 : Nat) : Int) - 1) = -1 by rfl] at hi
        subst hi
        go_wp2_with fail
        go_ret
        exact ⟨ret_b E0.out.symm, hbw⟩
      · rw [show (((k + 1 : Nat) : Int) - 1) = (k : Int) by omega] at hi
        subst hi
        have E1 := Shut.mk (L1.out k (by omega) hj)
        have hkm : (k : Int) < (m : Int) := by omega
        have c1 := ((bcell hbw).1 g k gl).trans (K.out.1 k (by omega))
        have c2 := ((bcell hbw).1 g' k gl').trans (K.out.2 k (by omega))
        obtain ⟨q1, q2⟩ := hkk.out k
        have hj' := fun (h : D.getD k 0 = D'.getD k 0) j (h1 : k ≤ j) (h2 : j < m) => show D.getD j 0 = D'.getD j 0 by
          by_cases e : k = j
          · subst e; exact h
          · exact hj j (by omega) h2
        have hj2 := Shut.mk hj'
        clear hj hj'
        generalize D.getD k 0 = x at *
        generalize D'.getD k 0 = y at *
        by_cases hxy : x = y
        · have e1 : ((x : Int) == (y : Int)) = true := by simp; omega
          go_wp2_with fail
          go_quiet (fail)
          go_wp2_with fail
          go_roundw
          case rel => exact ⟨⟨k, by omega, by go_num, hj2.out hxy⟩, below_drewN hbw nq⟩
          case measure => simp [intOf]
        · have e1 : ((x : Int) == (y : Int)) = false := by simp; omega
          go_wp2_with fail
          go_quiet (fail)
          go_wp2_with fail
          go_quiet (fail)
          go_wp2_with fail
          go_ret
          exact ⟨ret_b (by rw [E1.out hxy]), below_drewN (below_drewN hbw _) _⟩
  · have t := Dg.V_longer (A := D') (B := D) hok' h hn1 hs
    rw [hV, hV'] at t
    have e1 : (decide (N ≤ M)) = false := by simp; omega
    rw [e1]
    have h1 : ((m : Int) == (n : Int)) = false := by simp; omega
    have h2 : ¬ (m : Int) < (n : Int) := by omega
    clear e1 t hs hs' hV hV' hok hok' hg hg' hD hD'
    go_enter Try.func17, Try.ntmps17
    go_wp2_with fail
    go_ret
    exact ⟨rfl, B0⟩

end Go.Proofs.Ytnnpfmelfhgdcaa
