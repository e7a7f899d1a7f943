/- Plain: shifts, limb by limb as bit by bit. -/
import Derived.Test.YtdgklodhgbbdjaaWE
import Derived.Lib.ItoaNum
namespace Go.Proofs.Ytdgklodhgbbdjaa
set_option linter.unusedVariables false
set_option linter.unusedSimpArgs false
open Go Go.RowKit

/-- Four limbs. -/
def Limbs4 (ns : List Nat) : Prop := ns.length = 4 ∧ ∀ x ∈ ns, x < 18446744073709551616

theorem Limbs4.lt {ns : List Nat} (h : Limbs4 ns) (j : Nat) : ns.getD j 0 < 18446744073709551616 := by
  rcases Nat.lt_or_ge j ns.length with hl | hl
  · exact h.2 _ (getD_mem ns j hl)
  · rw [List.getD_eq_getElem?_getD, List.getElem?_eq_none hl]; decide

theorem high_bit {x t : Nat} (h : x < 18446744073709551616) (ht : 64 ≤ t) : x.testBit t = false :=
  Nat.testBit_lt_two_pow (Nat.lt_of_lt_of_le h (Nat.pow_le_pow_right (show 2 > 0 by decide) ht))

theorem Limbs4.high {ns : List Nat} (h : Limbs4 ns) (j t : Nat) (ht : 64 ≤ t) : (ns.getD j 0).testBit t = false := high_bit (h.lt j) ht

theorem movedTo_get (ns : List Nat) (k : Int) (j : Nat) (h : j < 4) : (movedTo ns k 4).getD j 0 = movedAt ns k j := by
  unfold movedTo
  rw [List.getD_eq_getElem?_getD, List.getElem?_map, List.getElem?_range h]
  simp [h]

theorem fillTo_get (f : Nat → Nat) (j : Nat) (h : j < 4) : (fillTo f 4).getD j 0 = f j := by
  unfold fillTo
  rw [List.getD_eq_getElem?_getD, List.getElem?_map, List.getElem?_range h]
  simp [h]

theorem list_ext4 {l k : List Nat} (h1 : l.length = 4) (h2 : k.length = 4) (h : ∀ j, j < 4 → l.getD j 0 = k.getD j 0) : l = k := by
  apply List.ext_getElem?
  intro j
  by_cases hj : j < 4
  · have := h j hj
    simp only [List.getD_eq_getElem?_getD] at this
    rw [List.getElem?_eq_getElem (by omega), List.getElem?_eq_getElem (by omega)] at this ⊢
    simpa using this
  · rw [List.getElem?_eq_none (by omega), List.getElem?_eq_none (by omega)]

theorem movedTo_l4 {ns : List Nat} (h : Limbs4 ns) (k : Int) : Limbs4 (movedTo ns k 4) := ⟨movedTo_len _ _ _, movedTo_lt _ _ _ h.2⟩

theorem shlAt_lt {us : List Nat} (h : Limbs4 us) (k j : Nat) : shlAt us k j < 18446744073709551616 := by
  unfold shlAt
  refine or_lt64 _ _ (Nat.mod_lt _ (by decide)) ?_
  split
  · decide
  · exact Nat.lt_of_le_of_lt (Nat.div_le_self _ _) (h.lt _)

theorem shlOf_fill {us : List Nat} (h : Limbs4 us) (k : Nat) : shlOf us k = fillTo (shlAt us k) 4 := by
  unfold shlOf
  by_cases hk : k = 0
  · rw [if_pos hk]
    refine list_ext4 h.1 (fillTo_len _ _) fun j hj => ?_
    rw [fillTo_get _ _ hj]
    unfold shlAt
    subst hk
    rw [Nat.pow_zero, Nat.mul_one, Nat.mod_eq_of_lt (h.lt j)]
    have : (if j = 0 then 0 else us.getD (j - 1) 0 / 2 ^ (64 - 0)) = 0 := by
      split
      · rfl
      · exact Nat.div_eq_of_lt (h.lt _)
    rw [this, Nat.or_zero]
  · rw [if_neg hk]

theorem shlOf_l4 {us : List Nat} (h : Limbs4 us) (k : Nat) : Limbs4 (shlOf us k) := by
  rw [shlOf_fill h]
  exact ⟨fillTo_len _ _, fillTo_lt _ _ (fun j _ => shlAt_lt h k j)⟩

theorem bit_moved (ns : List Nat) (q j t : Nat) (hj : j < 4) : (movedAt ns (q : Int) j).testBit t = (decide (q ≤ j) && (ns.getD (j - q) 0).testBit t) := by
  unfold movedAt
  by_cases h : q ≤ j
  · rw [if_pos (by omega), decide_eq_true h, Bool.true_and, show ((j : Int) - (q : Int)).toNat = j - q by omega]
  · rw [if_neg (by omega), decide_eq_false h, Nat.zero_testBit]; rfl

theorem bit_movedn (ns : List Nat) (q j t : Nat) : (movedAt ns (-(q : Int)) j).testBit t = (decide (j + q < 4) && (ns.getD (j + q) 0).testBit t) := by
  unfold movedAt
  by_cases h : j + q < 4
  · rw [if_pos (by omega), decide_eq_true h, Bool.true_and, show ((j : Int) - (-(q : Int))).toNat = j + q by omega]
  · rw [if_neg (by omega), decide_eq_false h, Nat.zero_testBit]; rfl

theorem bitAt_nat (f : Nat → Bool) (m i K : Nat) : bitAt f m ((i : Int) - (K : Int)) = (decide (K ≤ i ∧ i - K < m) && f (i - K)) := by
  unfold bitAt
  by_cases h : K ≤ i ∧ i - K < m
  · rw [if_pos (by omega), decide_eq_true h, Bool.true_and, show ((i : Int) - (K : Int)).toNat = i - K by omega]
  · rw [if_neg (by omega), decide_eq_false h]; rfl

theorem bitAt_nat_up (f : Nat → Bool) (m i K : Nat) : bitAt f m ((i : Int) - (-(K : Int))) = (decide (i + K < m) && f (i + K)) := by
  unfold bitAt
  by_cases h : i + K < m
  · rw [if_pos (by omega), decide_eq_true h, Bool.true_and, show ((i : Int) - (-(K : Int))).toNat = i + K by omega]
  · rw [if_neg (by omega), decide_eq_false h]; rfl

theorem bitF_at (ns : List Nat) (j t : Nat) (ht : t < 64) : bitF ns (64 * j + t) = (ns.getD j 0).testBit t := by
  unfold bitF
  rw [show (64 * j + t) / 64 = j by omega, show (64 * j + t) % 64 = t by omega]

theorem shl_law {ns : List Nat} (h : Limbs4 ns) (K : Nat) : limbsUp (shiftF (bitF ns) 256 (K : Int)) 4 (256 + K) = shlOf (movedTo ns ((K / 64 : Nat) : Int) 4) (K % 64) := by
  have hm := movedTo_l4 h ((K / 64 : Nat) : Int)
  rw [shlOf_fill hm]
  refine list_ext4 (limbsUp_len _ _ _) (fillTo_len _ _) fun j hj => ?_
  rw [fillTo_get _ _ hj, limbsUp_get _ _ _ _ hj]
  apply Nat.eq_of_testBit_eq
  intro t
  rw [limbUp_bit]
  by_cases ht : t < 64
  · rw [decide_eq_true ht, Bool.true_and]
    unfold shiftF
    rw [bitAt_nat]
    unfold shlAt
    obtain ⟨q, hq⟩ : ∃ q, q = K / 64 := ⟨_, rfl⟩
    obtain ⟨k, hk⟩ : ∃ k, k = K % 64 := ⟨_, rfl⟩
    rw [← hq, ← hk, Nat.testBit_or, show (18446744073709551616 : Nat) = 2 ^ 64 by decide, Nat.testBit_mod_two_pow, Nat.testBit_mul_two_pow, decide_eq_true ht, Bool.true_and, movedTo_get _ _ _ hj, bit_moved _ _ _ _ hj]
    by_cases htk : k ≤ t
    · rw [decide_eq_true htk, Bool.true_and]
      have h2 : (if j = 0 then 0 else (movedTo ns (q : Int) 4).getD (j - 1) 0 / 2 ^ (64 - k)).testBit t = false := by
        split
        · exact Nat.zero_testBit _
        · rw [Nat.testBit_div_two_pow]
          exact high_bit ((movedTo_l4 h (q : Int)).lt _) (by omega)
      rw [h2, Bool.or_false]
      by_cases hqj : q ≤ j
      · rw [decide_eq_true hqj, Bool.true_and, show 64 * j + t - K = 64 * (j - q) + (t - k) by omega, bitF_at _ _ _ (by omega), decide_eq_true (by omega), decide_eq_true (by omega)]; simp
      · rw [decide_eq_false hqj, decide_eq_false (p := K ≤ 64 * j + t ∧ 64 * j + t - K < 256) (by omega)]; simp
    · rw [decide_eq_false htk, Bool.false_and, Bool.false_or]
      by_cases hj0 : j = 0
      · rw [if_pos hj0, Nat.zero_testBit, decide_eq_false (p := K ≤ 64 * j + t ∧ 64 * j + t - K < 256) (by omega)]; simp
      · rw [if_neg hj0, Nat.testBit_div_two_pow, movedTo_get _ _ _ (by omega), bit_moved _ _ _ _ (by omega)]
        by_cases hqj : q ≤ j - 1
        · rw [decide_eq_true hqj, Bool.true_and, show 64 * j + t - K = 64 * (j - 1 - q) + (t + (64 - k)) by omega, bitF_at _ _ _ (by omega), decide_eq_true (by omega), decide_eq_true (by omega)]; simp
        · rw [decide_eq_false hqj, decide_eq_false (p := K ≤ 64 * j + t ∧ 64 * j + t - K < 256) (by omega)]; simp
  · rw [decide_eq_false ht, Bool.false_and]
    exact (high_bit (shlAt_lt hm _ _) (by omega)).symm

theorem shrAt_lt {ds : List Nat} (h : Limbs4 ds) (k j : Nat) : shrAt ds k j < 18446744073709551616 := by
  unfold shrAt
  refine or_lt64 _ _ (Nat.lt_of_le_of_lt (Nat.div_le_self _ _) (h.lt _)) ?_
  split
  · exact Nat.mod_lt _ (by decide)
  · decide

theorem shrOf_l4 {ns : List Nat} (h : Limbs4 ns) (K : Nat) : Limbs4 (shrOf ns K) := ⟨fillTo_len _ _, fillTo_lt _ _ (fun j _ => shrAt_lt (movedTo_l4 h _) _ _)⟩

theorem shr_law {ns : List Nat} (h : Limbs4 ns) (K : Nat) : limbsUp (shiftF (bitF ns) 256 (-(K : Int))) 4 (256 - K) = shrOf ns K := by
  have hm := movedTo_l4 h (-((K / 64 : Nat) : Int))
  unfold shrOf
  refine list_ext4 (limbsUp_len _ _ _) (fillTo_len _ _) fun j hj => ?_
  rw [fillTo_get _ _ hj, limbsUp_get _ _ _ _ hj]
  apply Nat.eq_of_testBit_eq
  intro t
  rw [limbUp_bit]
  by_cases ht : t < 64
  · rw [decide_eq_true ht, Bool.true_and]
    unfold shiftF
    rw [bitAt_nat_up]
    unfold shrAt
    obtain ⟨q, hq⟩ : ∃ q, q = K / 64 := ⟨_, rfl⟩
    obtain ⟨k, hk⟩ : ∃ k, k = K % 64 := ⟨_, rfl⟩
    rw [← hq, ← hk, Nat.testBit_or, Nat.testBit_div_two_pow, movedTo_get _ _ _ hj, bit_movedn]
    by_cases htk : t + k < 64
    · have h2 : (if 0 < k ∧ j + 1 < 4 then (movedTo ns (-(q : Int)) 4).getD (j + 1) 0 * 2 ^ (64 - k) % 18446744073709551616 else 0).testBit t = false := by
        split
        · rw [show (18446744073709551616 : Nat) = 2 ^ 64 by decide, Nat.testBit_mod_two_pow, Nat.testBit_mul_two_pow, decide_eq_false (p := 64 - k ≤ t) (by omega)]; simp
        · exact Nat.zero_testBit _
      rw [h2, Bool.or_false]
      by_cases hqj : j + q < 4
      · rw [decide_eq_true hqj, Bool.true_and, show 64 * j + t + K = 64 * (j + q) + (t + k) by omega, bitF_at _ _ _ htk, decide_eq_true (by omega), decide_eq_true (by omega)]; simp
      · rw [decide_eq_false hqj, decide_eq_false (p := 64 * j + t < 256 - K) (by omega)]; simp
    · have h1 : (ns.getD (j + q) 0).testBit (t + k) = false := h.high _ _ (by omega)
      rw [h1, Bool.and_false, Bool.false_or]
      by_cases hc : 0 < k ∧ j + 1 < 4
      · rw [if_pos hc, show (18446744073709551616 : Nat) = 2 ^ 64 by decide, Nat.testBit_mod_two_pow, Nat.testBit_mul_two_pow, decide_eq_true ht, Bool.true_and, decide_eq_true (p := 64 - k ≤ t) (by omega), Bool.true_and, movedTo_get _ _ _ hc.2, bit_movedn]
        by_cases hqj : j + 1 + q < 4
        · rw [decide_eq_true hqj, Bool.true_and, show 64 * j + t + K = 64 * (j + 1 + q) + (t - (64 - k)) by omega, bitF_at _ _ _ (by omega), decide_eq_true (by omega), decide_eq_true (by omega)]; simp
        · rw [decide_eq_false hqj, decide_eq_false (p := 64 * j + t < 256 - K) (by omega)]; simp
      · rw [if_neg hc, Nat.zero_testBit, decide_eq_false (p := 64 * j + t < 256 - K) (by omega)]; simp
  · rw [decide_eq_false ht, Bool.false_and]
    exact (high_bit (shrAt_lt hm _ _) (by omega)).symm

/-- Lists of limbs are alike if their bits are. -/
theorem limbs_eq {ns ks : List Nat} (h : Limbs4 ns) (h' : Limbs4 ks) (hb : ∀ i, i < 256 → bitF ns i = bitF ks i) : ns = ks := by
  refine list_ext4 h.1 h'.1 fun j hj => ?_
  apply Nat.eq_of_testBit_eq
  intro t
  by_cases ht : t < 64
  · rw [← bitF_at _ _ _ ht, ← bitF_at _ _ _ ht]
    exact hb _ (by omega)
  · rw [h.high _ _ (by omega), h'.high _ _ (by omega)]

theorem bitF_limbsUp (f : Nat → Bool) (m i : Nat) (hi : i < 256) : bitF (limbsUp f 4 m) i = (decide (i < m) && f i) := by
  unfold bitF
  rw [limbsUp_get _ _ _ _ (by omega), limbUp_bit, decide_eq_true (by omega), Bool.true_and, show 64 * (i / 64) + i % 64 = i by omega]

/-- Whether one of the first bits is there. -/
def anyUp (f : Nat → Bool) : Nat → Bool
  | 0 => false
  | i + 1 => anyUp f i || f i

theorem anyUp_iff (f : Nat → Bool) : ∀ m, anyUp f m = true ↔ ∃ i, i < m ∧ f i = true
  | 0 => by simp [anyUp]
  | m + 1 => by
    rw [anyUp, Bool.or_eq_true, anyUp_iff f m]
    constructor
    · rintro (⟨i, hi, h⟩ | h)
      · exact ⟨i, by omega, h⟩
      · exact ⟨m, by omega, h⟩
    · rintro ⟨i, hi, h⟩
      by_cases e : i = m
      · right; rw [← e]; exact h
      · left; exact ⟨i, by omega, h⟩

theorem overUp_iff (f : Nat → Bool) (n : Nat) : ∀ m, overUp f n m = true ↔ ∃ i, 64 * n ≤ i ∧ i < m ∧ f i = true
  | 0 => by simp [overUp]
  | m + 1 => by
    rw [overUp, Bool.or_eq_true, overUp_iff f n m, Bool.and_eq_true, decide_eq_true_iff]
    constructor
    · rintro (⟨i, h1, hi, h⟩ | ⟨h1, h⟩)
      · exact ⟨i, h1, by omega, h⟩
      · exact ⟨m, h1, by omega, h⟩
    · rintro ⟨i, h1, hi, h⟩
      by_cases e : i = m
      · right; rw [← e]; exact ⟨h1, h⟩
      · left; exact ⟨i, h1, by omega, h⟩

theorem lost_law {ns : List Nat} (h : Limbs4 ns) (K : Nat) : shrLost ns K = anyUp (bitF ns) (min K 256) := by
  have ho := shrOf_l4 h K
  have hback : ∀ i, i < 256 → bitF (shlOf (movedTo (shrOf ns K) ((K / 64 : Nat) : Int) 4) (K % 64)) i = (decide (K ≤ i) && bitF ns i) := by
    intro i hi
    rw [← shl_law ho K, bitF_limbsUp _ _ _ hi, decide_eq_true (by omega), Bool.true_and]
    unfold shiftF
    rw [bitAt_nat]
    by_cases hK : K ≤ i
    · rw [decide_eq_true (p := K ≤ i ∧ i - K < 256) (by omega), decide_eq_true hK, Bool.true_and, Bool.true_and, ← shr_law h K, bitF_limbsUp _ _ _ (by omega), decide_eq_true (by omega), Bool.true_and]
      unfold shiftF
      rw [bitAt_nat_up, decide_eq_true (by omega), Bool.true_and, Nat.sub_add_cancel hK]
    · rw [decide_eq_false (p := K ≤ i ∧ i - K < 256) (by omega), decide_eq_false hK]; rfl
  unfold shrLost
  rw [Bool.eq_iff_iff, anyUp_iff, Bool.not_eq_true', decide_eq_false_iff_not]
  constructor
  · intro hne
    apply Classical.byContradiction
    intro hno
    apply hne
    refine limbs_eq (shlOf_l4 (movedTo_l4 ho _) _) h fun i hi => ?_
    rw [hback i hi]
    by_cases hK : K ≤ i
    · rw [decide_eq_true hK, Bool.true_and]
    · rw [decide_eq_false hK, Bool.false_and]
      cases hb : bitF ns i
      · rfl
      · exact absurd ⟨i, by omega, hb⟩ hno
  · rintro ⟨i, hi, hb⟩ e
    have := hback i (by omega)
    rw [e, hb, decide_eq_false (by omega)] at this
    simp at this

theorem bitLen_top {x : Nat} (h : x < 18446744073709551616) (h0 : x ≠ 0) : 1 ≤ Lib.bitLen x ∧ Lib.bitLen x ≤ 64 ∧ x.testBit (Lib.bitLen x - 1) = true ∧ ∀ t, Lib.bitLen x ≤ t → x.testBit t = false := by
  obtain ⟨h1, h2, h3⟩ := Lib.bitLenAux_bounds 64 x h h0
  refine ⟨h1, bitLen_le64 x h, ?_, fun t ht => Nat.testBit_lt_two_pow (Nat.lt_of_lt_of_le h3 (Nat.pow_le_pow_right (show 2 > 0 by decide) ht))⟩
  show x.testBit (Lib.bitLenAux 64 x - 1) = true
  obtain ⟨l, hl⟩ : ∃ l, Lib.bitLenAux 64 x = l + 1 := ⟨Lib.bitLenAux 64 x - 1, by omega⟩
  rw [hl] at h2 h3 ⊢
  rw [Nat.add_sub_cancel] at h2 ⊢
  rw [Nat.testBit_eq_decide_div_mod_eq]
  have : x / 2 ^ l = 1 := Nat.div_eq_of_lt_le (by omega) (by rw [Nat.pow_succ] at h3; omega)
  rw [this]; rfl

/-- The size is where the bits end. -/
theorem size_spec {ns : List Nat} (h : ∀ j, ns.getD j 0 < 18446744073709551616) : ∀ n, (∀ p, sizeTo ns n ≤ p → p < 64 * n → bitF ns p = false) ∧ (sizeTo ns n ≠ 0 → bitF ns (sizeTo ns n - 1) = true ∧ sizeTo ns n ≤ 64 * n)
  | 0 => ⟨fun p _ hp => by omega, fun h => absurd rfl h⟩
  | n + 1 => by
    obtain ⟨i1, i2⟩ := size_spec h n
    rw [sizeTo]
    by_cases h0 : ns.getD n 0 ≠ 0
    · rw [if_pos h0]
      obtain ⟨b1, b2, b3, b4⟩ := bitLen_top (h n) h0
      refine ⟨fun p hp hp2 => ?_, fun _ => ⟨?_, by omega⟩⟩
      · rw [show p = 64 * n + (p - 64 * n) by omega, bitF_at _ _ _ (by omega)]
        exact b4 _ (by omega)
      · rw [show n * 64 + Lib.bitLen (ns.getD n 0) - 1 = 64 * n + (Lib.bitLen (ns.getD n 0) - 1) by omega, bitF_at _ _ _ (by omega)]
        exact b3
    · rw [if_neg h0]
      have h0' : ns.getD n 0 = 0 := Classical.byContradiction h0
      refine ⟨fun p hp hp2 => ?_, fun hs => ⟨(i2 hs).1, by have := (i2 hs).2; omega⟩⟩
      by_cases hpn : p < 64 * n
      · exact i1 p hp hpn
      · rw [show p = 64 * n + (p - 64 * n) by omega, bitF_at _ _ _ (by omega), h0', Nat.zero_testBit]

theorem over_law {ns : List Nat} (h : Limbs4 ns) (K : Nat) : overUp (shiftF (bitF ns) 256 (K : Int)) 4 (256 + K) = shlOv ns K := by
  obtain ⟨s1, s2⟩ := size_spec h.lt 4
  unfold shlOv
  rw [Bool.eq_iff_iff, overUp_iff, Bool.and_eq_true, decide_eq_true_iff, Bool.not_eq_true', decide_eq_false_iff_not]
  constructor
  · rintro ⟨i, h1, h2, hf⟩
    unfold shiftF at hf
    rw [bitAt_nat, Bool.and_eq_true, decide_eq_true_iff] at hf
    obtain ⟨hc, hb⟩ := hf
    have hs : i - K < sizeTo ns 4 := by
      rcases Nat.lt_or_ge (i - K) (sizeTo ns 4) with hl | hl
      · exact hl
      · rw [s1 _ hl (by omega)] at hb; cases hb
    refine ⟨by omega, fun e => ?_⟩
    rw [e] at hs
    simp [sizeTo] at hs
  · rintro ⟨h1, h2⟩
    have hs : sizeTo ns 4 ≠ 0 := by
      intro h0
      apply h2
      refine limbs_eq h ⟨rfl, by decide⟩ fun i hi => ?_
      rw [s1 i (by omega) (by omega)]
      unfold bitF
      have : ([0, 0, 0, 0] : List Nat).getD (i / 64) 0 = 0 := by
        have hq : i / 64 < 4 := by omega
        generalize i / 64 = q at hq
        match q, hq with
        | 0, _ => rfl
        | 1, _ => rfl
        | 2, _ => rfl
        | 3, _ => rfl
      rw [this, Nat.zero_testBit]
    obtain ⟨h3, h4⟩ := s2 hs
    refine ⟨sizeTo ns 4 - 1 + K, by omega, by omega, ?_⟩
    unfold shiftF
    rw [bitAt_nat, Nat.add_sub_cancel, h3, decide_eq_true (by omega)]; rfl

end Go.Proofs.Ytdgklodhgbbdjaa
