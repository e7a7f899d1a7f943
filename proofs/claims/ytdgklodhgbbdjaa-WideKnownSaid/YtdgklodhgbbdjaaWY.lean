/- Plain: division, a bit a round. -/
import Derived.Test.YtdgklodhgbbdjaaWX
namespace Go.Proofs.Ytdgklodhgbbdjaa
set_option linter.unusedVariables false
set_option linter.unusedSimpArgs false
open Go Go.RowKit

/-- One bit set otherwise. -/
theorem natOf_put (f g : Nat → Bool) (k : Nat) (hf : f k = false) (hg : g k = true) (ho : ∀ t, t ≠ k → g t = f t) : ∀ M, natOf g M = natOf f M + if k < M then 2 ^ k else 0
  | 0 => by rw [if_neg (by omega)]; rfl
  | M + 1 => by
    have ih := natOf_put f g k hf hg ho M
    rw [natOf_succ, natOf_succ, ih]
    by_cases e : M = k
    · subst e
      rw [hf, hg]
      simp
    · rw [ho M e]
      generalize (2 ^ M * if f M = true then 1 else 0) = z
      have : (if k < M then 2 ^ k else 0) = (if k < M + 1 then 2 ^ k else 0) := by
        by_cases h : k < M
        · rw [if_pos h, if_pos (by omega)]
        · rw [if_neg h, if_neg (by omega)]
      omega

theorem pow_lt64 {r : Nat} (h : r < 64) : 2 ^ r < 18446744073709551616 := Nat.pow_lt_pow_right (by decide) h

theorem vn_or {zs : List Nat} {n k : Nat} (hl : zs.length = n) (hz : ∀ x ∈ zs, x < 18446744073709551616) (hk : k < 64 * n) (hb : bitF zs k = false) :
    vn (zs.set (k / 64) (zs.getD (k / 64) 0 ||| 2 ^ (k % 64))) n = vn zs n + 2 ^ k := by
  unfold vn
  rw [natOf_put (bitF zs) (bitF (zs.set (k / 64) (zs.getD (k / 64) 0 ||| 2 ^ (k % 64)))) k hb, if_pos hk]
  · unfold bitF
    rw [set_get (by omega), if_pos rfl, Nat.testBit_or, Nat.testBit_two_pow]
    simp
  · intro t ht
    unfold bitF
    rw [set_get (by omega)]
    by_cases e : t / 64 = k / 64
    · rw [if_pos e, Nat.testBit_or, Nat.testBit_two_pow, e]
      rw [decide_eq_false (by omega), Bool.or_false]
    · rw [if_neg e]

theorem or_lt (x y : Nat) (hx : x < 18446744073709551616) (hy : y < 18446744073709551616) : x ||| y < 18446744073709551616 := or_lt64 x y hx hy

theorem vn_bit (zs : List Nat) (n k : Nat) (hk : k < 64 * n) : (vn zs n).testBit k = bitF zs k := by
  unfold vn
  rw [natOf_bit, decide_eq_true hk, Bool.true_and]

/-- What the rounds of DivMod hold: behind the k-th bit. -/
def DivI (A B k : Nat) (qs rs : List Nat) : Prop :=
  qs.length = 4 ∧ rs.length = 4 ∧ (∀ x ∈ qs, x < 18446744073709551616) ∧ (∀ x ∈ rs, x < 18446744073709551616) ∧ ∃ Q, vn qs 4 = 2 ^ k * Q ∧ A / 2 ^ k = B * Q + vn rs 4 ∧ vn rs 4 < B

theorem half_bit (A k : Nat) : A / 2 ^ k = 2 * (A / 2 ^ (k + 1)) + A / 2 ^ k % 2 := by
  rw [Nat.pow_succ, ← Nat.div_div_eq_div_mul]
  omega

/-- The rest, moved up, with its bit. -/
theorem rest_up {A B k : Nat} {qs rs ss : List Nat} {t : Nat} (h : DivI A B (k + 1) qs rs) (hs : ∀ x ∈ ss, x < 18446744073709551616) (hl : ss.length = 4) (hv : vn ss 4 = vn rs 4 * 2 % 2 ^ 256) (ht : t = A / 2 ^ k % 2) :
    (∀ x ∈ ss.set 0 (ss.getD 0 0 ||| t), x < 18446744073709551616) ∧ (ss.set 0 (ss.getD 0 0 ||| t)).length = 4 ∧ vn (ss.set 0 (ss.getD 0 0 ||| t)) 4 = vn rs 4 * 2 % 2 ^ 256 + t := by
  have ht2 : t = 0 ∨ t = 1 := by omega
  have h0 := getD_lt hs 0
  refine ⟨?_, by rw [List.length_set, hl], ?_⟩
  · exact set_lt hs (or_lt _ _ h0 (by omega))
  · rcases ht2 with e | e <;> rw [e]
    · rw [Nat.or_zero, Nat.add_zero, ← hv]
      congr 1
      apply list_ext4 (by rw [List.length_set, hl]) hl
      intro j hj
      rw [set_get (by omega)]
      split
      · rename_i h; rw [h]
      · rfl
    · have hb : bitF ss 0 = false := by
        rw [← vn_bit ss 4 0 (by decide), hv, Nat.testBit_zero]
        have : vn rs 4 * 2 % 2 ^ 256 % 2 = 0 := by
          rw [show (2 : Nat) ^ 256 = 2 * 2 ^ 255 by decide, Nat.mul_comm (vn rs 4) 2, Nat.mul_mod_mul_left]
          omega
        rw [this]; rfl
      have := vn_or hl hs (show 0 < 64 * 4 by decide) hb
      rw [Nat.pow_zero] at this
      simp only [Nat.zero_div, Nat.zero_mod, Nat.pow_zero] at this
      rw [this, hv]

/-- Whether the top bit is lost. -/
theorem top_is (x0 x1 x2 x3 : Nat) (h : ∀ x ∈ [x0, x1, x2, x3], x < 18446744073709551616) : (x3 / 2 ^ 63 = 1) ↔ 2 ^ 255 ≤ vn [x0, x1, x2, x3] 4 := by
  have e : vn [x0, x1, x2, x3] 4 = vn [x0, x1, x2, x3] 3 + 2 ^ 192 * x3 := vn_succ _ (getD_lt h) 3
  have h1 := vn_lt [x0, x1, x2, x3] 3
  have h3 : x3 < 18446744073709551616 := h x3 (by simp)
  rw [e]
  generalize vn [x0, x1, x2, x3] 3 = y at *
  omega

/-- A round in which nothing is taken away. -/
theorem DivI.keep {A B k : Nat} {qs rs ss : List Nat} (h : DivI A B (k + 1) qs rs) (hs : ∀ x ∈ ss, x < 18446744073709551616) (hl : ss.length = 4) (hv : vn ss 4 = vn rs 4 * 2 % 2 ^ 256 + A / 2 ^ k % 2) (ht : ¬ 2 ^ 255 ≤ vn rs 4) (hc : vn ss 4 < B) : DivI A B k qs ss := by
  obtain ⟨h1, h2, h3, h4, Q, h5, h6, h7⟩ := h
  rw [Nat.mod_eq_of_lt (by omega)] at hv
  refine ⟨h1, hl, h3, hs, 2 * Q, ?_, ?_, hc⟩
  · rw [h5, Nat.pow_succ, Nat.mul_assoc]
  · rw [half_bit, h6, hv, Nat.mul_add, Nat.mul_left_comm]
    omega

/-- A round in which it is taken away. -/
theorem DivI.take {A B k : Nat} {qs rs ss ds : List Nat} {bw : Nat} (h : DivI A B (k + 1) qs rs) (hk : k < 256) (hB : B < 2 ^ 256) (hd : ∀ x ∈ ds, x < 18446744073709551616) (hl : ds.length = 4) (hv : vn ss 4 = vn rs 4 * 2 % 2 ^ 256 + A / 2 ^ k % 2) (ht : 2 ^ 255 ≤ vn rs 4 ∨ B ≤ vn ss 4)
    (hs : vn ds 4 + B = vn ss 4 + 2 ^ 256 * bw) (hb : bw ≤ 1) : DivI A B k (qs.set (k / 64) (qs.getD (k / 64) 0 ||| 2 ^ (k % 64))) ds := by
  obtain ⟨h1, h2, h3, h4, Q, h5, h6, h7⟩ := h
  have hr := vn_lt rs 4
  have hd2 := vn_lt ds 4
  have hss := vn_lt ss 4
  rw [show 64 * 4 = 256 from rfl] at hr hd2 hss
  have hbit : bitF qs k = false := by
    rw [← vn_bit qs 4 k (by omega), h5, Nat.mul_comm, Nat.testBit_mul_two_pow, decide_eq_false (by omega), Bool.false_and]
  refine ⟨by rw [List.length_set, h1], hl, set_lt h3 (or_lt _ _ (getD_lt h3 _) (pow_lt64 (Nat.mod_lt _ (by decide)))), hd, 2 * Q + 1, ?_, ?_, ?_⟩
  · rw [vn_or h1 h3 (by omega) hbit, h5, Nat.pow_succ, Nat.mul_add, Nat.mul_one, Nat.mul_assoc]
  · have hT : A / 2 ^ k % 2 < 2 := Nat.mod_lt _ (by decide)
    rw [half_bit, h6, Nat.mul_add B, Nat.mul_one, Nat.mul_left_comm B 2 Q, Nat.mul_add]
    generalize A / 2 ^ k % 2 = t at *
    generalize B * Q = z at *
    have : bw = 0 ∨ bw = 1 := by omega
    rcases this with rfl | rfl <;> omega
  · have hT : A / 2 ^ k % 2 < 2 := Nat.mod_lt _ (by decide)
    generalize A / 2 ^ k % 2 = t at *
    have : bw = 0 ∨ bw = 1 := by omega
    rcases this with rfl | rfl <;> omega

theorem DivI.done {A B : Nat} {qs rs : List Nat} (h : DivI A B 0 qs rs) : vn qs 4 = A / B ∧ vn rs 4 = A % B := by
  obtain ⟨h1, h2, h3, h4, Q, h5, h6, h7⟩ := h
  rw [Nat.pow_zero, Nat.one_mul] at h5
  rw [Nat.pow_zero, Nat.div_one] at h6
  have hp : 0 < B := by omega
  rw [h5, h6, Nat.mul_add_div hp, Nat.div_eq_of_lt h7, Nat.mul_add_mod, Nat.mod_eq_of_lt h7]
  exact ⟨rfl, rfl⟩

theorem vn_zero4 : vn [0, 0, 0, 0] 4 = 0 := natOf_none _ _ (fun i hi => by
  unfold bitF
  have hq : i / 64 < 4 := by omega
  have : ([0, 0, 0, 0] : List Nat).getD (i / 64) 0 = 0 := by
    generalize i / 64 = q at hq
    match q, hq with
    | 0, _ => rfl
    | 1, _ => rfl
    | 2, _ => rfl
    | 3, _ => rfl
  rw [this, Nat.zero_testBit])

/-- At its begin: above the bits that are there. -/
theorem DivI.start {A B k : Nat} (h : A < 2 ^ k) (hB : 0 < B) : DivI A B k [0, 0, 0, 0] [0, 0, 0, 0] :=
  ⟨rfl, rfl, by intro x hx; simp at hx; omega, by intro x hx; simp at hx; omega, 0, by rw [vn_zero4]; simp, by rw [vn_zero4, Nat.div_eq_of_lt h]; simp, by rw [vn_zero4]; exact hB⟩

theorem vn_below_size (xs : List Nat) (h : ∀ x ∈ xs, x < 18446744073709551616) (n : Nat) : vn xs n < 2 ^ sizeTo xs n := by
  apply Nat.lt_pow_two_of_testBit
  intro i hi
  by_cases hn : i < 64 * n
  · rw [vn_bit xs n i hn]
    exact (size_spec (getD_lt h) n).1 i hi hn
  · unfold vn
    rw [natOf_bit, decide_eq_false hn, Bool.false_and]

/-- The rest moved up by one. -/
theorem vn_shl1 {rs : List Nat} (h : Limbs4 rs) : vn (shlOf (movedTo rs ((1 / 64 : Nat) : Int) 4) (1 % 64)) 4 = vn rs 4 * 2 % 2 ^ 256 := by
  have hl := shlOf_l4 (movedTo_l4 h ((1 / 64 : Nat) : Int)) (1 % 64)
  rw [vn_val hl.2 hl.1, ← shl_law h 1, val_limbsUp, natOf_shift]
  rfl

theorem DivI.bit {xs : List Nat} {k : Nat} (hk : k < 256) : (xs.getD (k / 64) 0 / 2 ^ (k % 64)) % 2 = vn xs 4 / 2 ^ k % 2 := by
  have h1 := vn_bit xs 4 k hk
  unfold bitF at h1
  rw [Nat.testBit_eq_decide_div_mod_eq, Nat.testBit_eq_decide_div_mod_eq] at h1
  have := decide_eq_decide.1 h1
  omega

end Go.Proofs.Ytdgklodhgbbdjaa
