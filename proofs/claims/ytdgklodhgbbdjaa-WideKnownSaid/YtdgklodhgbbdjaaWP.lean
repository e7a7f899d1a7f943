/- Walks: compared, Cmp; BitLen and Low of 512 bits. -/
import Derived.Test.YtdgklodhgbbdjaaWO
namespace Go.Proofs.Ytdgklodhgbbdjaa
set_option linter.unusedVariables false
set_option linter.unusedSimpArgs false
open Go Go.RowKit

theorem drewN_two (w : World) (a b : Nat) : (w.drewN a).drewN b = w.drewN (a + b) := by simp [World.drewN, Nat.add_assoc]

/-- How limbs compare, from the k-th down. -/
def cmpTo (xs ys : List Nat) : Nat → Int
  | 0 => 0
  | k + 1 => if xs.getD k 0 < ys.getD k 0 then -1 else if ys.getD k 0 < xs.getD k 0 then 1 else cmpTo xs ys k

set_option maxRecDepth 100000 in
set_option maxHeartbeats 1000000 in
theorem compared_any (t g1 g2 n : Nat) (xs ys : List Nat) (w : World) (h1 : RowAt w t g1 n (U xs)) (h2 : RowAt w t g2 n (U ys)) (l1 : xs.length = n) (l2 : ys.length = n) (hn : n < 1000) :
    Calls Try.prog 37 #[.slice (some ⟨g1, 0, none⟩) n n, .slice (some ⟨g2, 0, none⟩) n n] w fun e w' => e = .returned (.int .i64 (cmpTo xs ys n)) ∧ Below w.heap.size w w' := by
  have C1 := Shut.mk (fun k (hk : k < n) => h1.u64 (k := k) (by omega))
  have C2 := Shut.mk (fun k (hk : k < n) => h2.u64 (k := k) (by omega))
  have B0 := Shut.mk (Below.refl w.heap.size w)
  clear h1 h2 l1 l2
  go_enter Try.func37, Try.ntmps37
  go_wp2_with fail
  go_loopw [5] (fun i wr => ∃ k a : Nat, k ≤ n ∧ i = .int .i64 ((k : Int) - 1) ∧ cmpTo xs ys n = cmpTo xs ys k ∧ wr = w.drewN a) (fun i _ => (intOf i + 1).toNat)
  case atStart => exact ⟨n, 0, by omega, rfl, rfl, rfl⟩
  case round =>
    obtain ⟨k, a, hk, rfl, he, rfl⟩ := hrel
    have HE := Shut.mk he
    have BA := Shut.mk (below_drewN B0.out a)
    clear he
    cases k with
    | zero =>
      have h0 : ¬ (((0 : Nat) : Int) - 1 ≥ 0) := by omega
      go_wp2_with fail
      go_ret
      exact ⟨by rw [HE.out]; rfl, BA.out⟩
    | succ k =>
      rw [show ((k + 1 : Nat) : Int) - 1 = (k : Int) by omega]
      have hk2 : (k : Int) < (n : Int) := by omega
      have c1 : (w.drewN a).cell? ⟨g1, k, none⟩ = some (.int .u64 (xs.getD k 0 : Nat)) := C1.out k (by omega)
      have c2 : (w.drewN a).cell? ⟨g2, k, none⟩ = some (.int .u64 (ys.getD k 0 : Nat)) := C2.out k (by omega)
      have HS : Shut (cmpTo xs ys n = if xs.getD k 0 < ys.getD k 0 then -1 else if ys.getD k 0 < xs.getD k 0 then 1 else cmpTo xs ys k) := ⟨HE.out⟩
      obtain ⟨W, hW⟩ : ∃ W, W = w.drewN a := ⟨_, rfl⟩
      have HW := Shut.mk hW
      rw [← hW] at c1 c2 BA ⊢
      generalize xs.getD k 0 = x at *
      generalize ys.getD k 0 = y at *
      clear hW
      by_cases hlt : x < y
      · have t1 : (x : Int) < (y : Int) := by omega
        rw [if_pos hlt] at HS
        clear hlt
        go_wp2_with fail
        go_quiet (fail)
        go_wp2_with fail
        go_ret
        exact ⟨by rw [HS.out]; rfl, below_drewN BA.out _⟩
      · have t1 : ¬ (x : Int) < (y : Int) := by omega
        rw [if_neg hlt] at HS
        clear hlt
        by_cases hgt : y < x
        · have t2 : (x : Int) > (y : Int) := by omega
          rw [if_pos hgt] at HS
          clear hgt
          go_wp2_with fail
          go_quiet (fail)
          go_wp2_with fail
          go_quiet (fail)
          go_wp2_with fail
          go_ret
          exact ⟨by rw [HS.out]; rfl, below_drewN (below_drewN BA.out _) _⟩
        · have t2 : ¬ (x : Int) > (y : Int) := by omega
          rw [if_neg hgt] at HS
          clear hgt
          go_wp2_with fail
          go_quiet (fail)
          go_wp2_with fail
          go_quiet (fail)
          go_wp2_with fail
          go_roundw
          case rel => exact ⟨k, _, by omega, rfl, HS.out, by rw [HW.out, drewN_two]⟩
          case measure => simp [intOf]

theorem cmpTo_val (xs ys : List Nat) (hx : ∀ j, xs.getD j 0 < 18446744073709551616) (hy : ∀ j, ys.getD j 0 < 18446744073709551616) : ∀ k, cmpTo xs ys k = cmpOf (natOf (bitF xs) (64 * k)) (natOf (bitF ys) (64 * k))
  | 0 => rfl
  | k + 1 => by
    have ih := cmpTo_val xs ys hx hy k
    have e : ∀ zs : List Nat, (∀ j, zs.getD j 0 < 18446744073709551616) → natOf (bitF zs) (64 * (k + 1)) = natOf (bitF zs) (64 * k) + 2 ^ (64 * k) * zs.getD k 0 := fun zs hz => by
      rw [show 64 * (k + 1) = 64 * k + 64 by omega, natOf_add]
      congr 2
      rw [natOf_congr _ (fun t => (zs.getD k 0).testBit t) 64 (fun i hi => bitF_at zs k i hi)]
      exact natOf_self _ 64 (hz k)
    rw [cmpTo, e xs hx, e ys hy, ih]
    have l1 := natOf_lt (bitF xs) (64 * k)
    have l2 := natOf_lt (bitF ys) (64 * k)
    generalize xs.getD k 0 = x
    generalize ys.getD k 0 = y
    generalize natOf (bitF xs) (64 * k) = a at *
    generalize natOf (bitF ys) (64 * k) = b at *
    generalize 2 ^ (64 * k) = P at *
    unfold cmpOf
    rcases Nat.lt_trichotomy x y with h | h | h
    · obtain ⟨d, rfl⟩ : ∃ d, y = x + 1 + d := ⟨y - x - 1, by omega⟩
      have : P * (x + 1 + d) = P * x + P + P * d := by rw [Nat.mul_add, Nat.mul_add, Nat.mul_one]
      rw [if_pos (by omega), if_pos (by omega)]
    · subst h
      rw [if_neg (by omega), if_neg (by omega)]
      by_cases h2 : a < b
      · rw [if_pos h2, if_pos (by omega)]
      · rw [if_neg h2, if_neg (show ¬ a + P * x < b + P * x by omega)]
        by_cases h3 : b < a
        · rw [if_pos h3, if_pos (by omega)]
        · rw [if_neg h3, if_neg (by omega)]
    · obtain ⟨d, rfl⟩ : ∃ d, x = y + 1 + d := ⟨x - y - 1, by omega⟩
      have : P * (y + 1 + d) = P * y + P + P * d := by rw [Nat.mul_add, Nat.mul_add, Nat.mul_one]
      rw [if_neg (by omega), if_pos (by omega), if_neg (by omega), if_pos (by omega)]

/-- The size is the length of the bits. -/
theorem size_len {ns : List Nat} (h : ∀ j, ns.getD j 0 < 18446744073709551616) (n : Nat) : sizeTo ns n = lenTo (bitF ns) (64 * n) := by
  obtain ⟨s1, s2⟩ := size_spec h n
  have key : ∀ m, sizeTo ns n ≤ m → m ≤ 64 * n → lenTo (bitF ns) m = sizeTo ns n := by
    intro m
    induction m with
    | zero => intro h1 _; rw [lenTo]; omega
    | succ m ih =>
      intro h1 h2
      rw [lenTo]
      by_cases e : sizeTo ns n = m + 1
      · have := (s2 (by omega)).1
        rw [e, Nat.add_sub_cancel] at this
        rw [if_pos this, e]
      · rw [if_neg (by rw [s1 m (by omega) (by omega)]; simp)]
        exact ih (by omega) (by omega)
  refine (key _ ?_ (Nat.le_refl _)).symm
  by_cases h0 : sizeTo ns n = 0
  · omega
  · exact (s2 h0).2

end Go.Proofs.Ytdgklodhgbbdjaa
