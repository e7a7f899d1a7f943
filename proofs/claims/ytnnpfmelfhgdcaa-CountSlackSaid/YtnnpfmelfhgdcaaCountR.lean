/- Walks over the reference of layer 17. -/
import Derived.Test.YtnnpfmelfhgdcaaCountB
namespace Go.Proofs.Ytnnpfmelfhgdcaa
set_option linter.unusedVariables false
open Go.RowKit Go.Shelf

/-- The long division behind the bits from k on. -/
structure Dv (s g k rest q : Nat) (over : Bool) : Prop where
  lt : rest < g
  ex : ∃ Q, s * 16777216 / 2 ^ k = Q * g + rest ∧ q = Q % 18446744073709551616 ∧ over = decide (18446744073709551616 ≤ Q)

/-- The bit at place k. -/
def bitAt (s k : Nat) : Nat := if 24 ≤ k then s / 2 ^ (k - 24) % 2 else 0

theorem bit_next (s k : Nat) : s * 16777216 / 2 ^ k = 2 * (s * 16777216 / 2 ^ (k + 1)) + bitAt s k := by
  have h1 : s * 16777216 / 2 ^ (k + 1) = s * 16777216 / 2 ^ k / 2 := by rw [Nat.div_div_eq_div_mul, Nat.pow_succ]
  have h2 : s * 16777216 / 2 ^ k % 2 = bitAt s k := by
    unfold bitAt
    by_cases hk : 24 ≤ k
    · rw [if_pos hk]
      have e : 2 ^ k = 16777216 * 2 ^ (k - 24) := by
        rw [show (16777216 : Nat) = 2 ^ 24 from by decide, ← Nat.pow_add]; congr 1; omega
      rw [e, ← Nat.div_div_eq_div_mul, Nat.mul_div_cancel _ (by omega)]
    · rw [if_neg hk]
      have e : 16777216 = 2 * 2 ^ (23 - k) * 2 ^ k := by
        rw [show (16777216 : Nat) = 2 ^ 24 from by decide, show 2 * 2 ^ (23 - k) * 2 ^ k = 2 ^ 1 * 2 ^ (23 - k) * 2 ^ k from rfl, ← Nat.pow_add, ← Nat.pow_add]; congr 1; omega
      rw [e, ← Nat.mul_assoc, Nat.mul_div_cancel _ (Nat.two_pow_pos k), Nat.mul_comm 2, ← Nat.mul_assoc]
      omega
  omega

theorem bitAt_le (s k : Nat) : bitAt s k ≤ 1 := by
  unfold bitAt
  split
  · omega
  · omega

theorem Dv.start (s g : Nat) (hs : s < 18446744073709551616) (hg : 0 < g) : Dv s g 88 0 0 false := by
  refine ⟨hg, 0, ?_, rfl, rfl⟩
  have e : (2 : Nat) ^ 88 = 309485009821345068724781056 := by decide
  rw [e, Nat.div_eq_of_lt (by omega)]; omega

theorem Dv.more {s g k rest q : Nat} {over : Bool} (h : Dv s g (k + 1) rest q over) (hge : g ≤ 2 * rest + bitAt s k) (hb : g < 4294967296) :
    Dv s g k (2 * rest + bitAt s k - g) ((2 * q % 18446744073709551616 + 1) % 18446744073709551616) (over || decide (9223372036854775808 ≤ q)) := by
  obtain ⟨h1, Q, h2, h3, h4⟩ := h
  have hbit := bitAt_le s k
  refine ⟨by omega, 2 * Q + 1, ?_, by omega, ?_⟩
  · rw [bit_next, h2]
    have e : (2 * Q + 1) * g = 2 * (Q * g) + g := by rw [Nat.add_mul, Nat.mul_assoc, Nat.one_mul]
    omega
  · rw [h4, h3, Bool.eq_iff_iff]
    simp
    omega

theorem Dv.less {s g k rest q : Nat} {over : Bool} (h : Dv s g (k + 1) rest q over) (hge : ¬ g ≤ 2 * rest + bitAt s k) (hb : g < 4294967296) :
    Dv s g k (2 * rest + bitAt s k) (2 * q % 18446744073709551616) (over || decide (9223372036854775808 ≤ q)) := by
  obtain ⟨h1, Q, h2, h3, h4⟩ := h
  have hbit := bitAt_le s k
  refine ⟨by omega, 2 * Q, ?_, by omega, ?_⟩
  · rw [bit_next, h2]
    have e : 2 * Q * g = 2 * (Q * g) := Nat.mul_assoc _ _ _
    omega
  · rw [h4, h3, Bool.eq_iff_iff]
    simp
    omega

/-- What the division says of a number. -/
theorem Dv.fin {s g rest q : Nat} {over : Bool} (h : Dv s g 0 rest q over) (n : Nat) (hn : n < 18446744073709551616) :
    decide (s * 16777216 ≤ n * g) = if over = true ∨ (0 < rest ∧ q = 18446744073709551615) then false else decide (q + (if 0 < rest then 1 else 0) ≤ n) := by
  obtain ⟨h1, Q, h2, h3, h4⟩ := h
  rw [Nat.pow_zero, Nat.div_one] at h2
  rw [h2]
  have hmul : ∀ m, Q < m → Q * g + rest < m * g + (if 0 < rest then 0 else 1) := by
    intro m hm
    have := Nat.mul_le_mul_right g hm
    rw [Nat.succ_mul] at this
    split <;> omega
  by_cases ho : over = true
  · have hQ : 18446744073709551616 ≤ Q := by rw [ho] at h4; simpa using h4
    rw [if_pos (.inl ho)]
    have := Nat.mul_le_mul_right g (show n + 1 ≤ Q by omega)
    rw [Nat.succ_mul] at this
    simp; omega
  · have hQ : ¬ 18446744073709551616 ≤ Q := by
      intro hc; rw [h4] at ho; simp at ho; omega
    have hq : q = Q := by omega
    subst hq
    by_cases hr : 0 < rest
    · by_cases hm : q = 18446744073709551615
      · rw [if_pos (.inr ⟨hr, hm⟩)]
        have := Nat.mul_le_mul_right g (show n ≤ q by omega)
        simp; omega
      · rw [if_neg (by simp [ho, hm]), if_pos hr, Bool.eq_iff_iff]
        simp only [decide_eq_true_eq]
        constructor
        · intro hle
          rcases Nat.lt_or_ge q n with h | h
          · exact h
          · have := Nat.mul_le_mul_right g h; omega
        · intro hle
          have := Nat.mul_le_mul_right g hle
          rw [Nat.succ_mul] at this; omega
    · rw [if_neg (by simp [ho, hr]), if_neg hr, Bool.eq_iff_iff]
      simp only [decide_eq_true_eq]
      have hr0 : rest = 0 := by omega
      subst hr0
      constructor
      · intro hle
        rcases Nat.lt_or_ge n q with h | h
        · have := Nat.mul_le_mul_right g h; rw [Nat.succ_mul] at this; omega
        · exact h
      · intro hle
        have := Nat.mul_le_mul_right g hle; omega

theorem shr_and_one (s k : Nat) (hs : s < 18446744073709551616) : bits BinOp.and IntKind.u64 ((s : Int) / 2 ^ k) 1 = ((s / 2 ^ k % 2 : Nat) : Int) := by
  have hle : s / 2 ^ k ≤ s := Nat.div_le_self _ _
  rw [show ((s : Int) / 2 ^ k) = ((s / 2 ^ k : Nat) : Int) from by push_cast; rfl]
  have := bits_and_u64_nat (s / 2 ^ k) 1 (by omega) (by omega)
  rw [show ((1 : Nat) : Int) = 1 from rfl] at this
  rw [this, Nat.and_one_is_mod]

theorem val_u' {a b : Int} (h : a = b) : Value.int .u64 a = .int .u64 b := by rw [h]
theorem val_b {a b : Bool} (h : a = b) : Value.bool a = .bool b := by rw [h]
theorem over_f (q : Nat) (hq : q < 18446744073709551616) : ((q : Int) / 9223372036854775808 == 1) = (false || decide (9223372036854775808 ≤ q)) := by
  rw [Bool.eq_iff_iff]
  simp
  omega

set_option maxRecDepth 100000 in
set_option maxHeartbeats 1000000 in
theorem rleast_pos (n g s : Nat) (w : World) (hn : n < 18446744073709551616) (hs : s < 18446744073709551616) (hs0 : 0 < s) (hg : 0 < g) (hgb : g < 1073741824) :
    Calls Try.prog 26 #[.int .u64 n, .int .u64 g, .int .u64 s] w fun e w' => e = .returned (.bool (decide (s * 16777216 ≤ n * g))) ∧ w = w' := by
  have e1 : ((s : Int) == 0) = false := by simp; omega
  have e2 : ((g : Int) == 0) = false := by simp; omega
  have D0 := Dv.start s g hs hg
  go_enter Try.func26, Try.ntmps26
  go_wp2
  go_loop [7, 8, 9, 10] (fun r q o i => ∃ (k rest qq : Nat) (over : Bool), k ≤ 88 ∧ i = .int .i64 ((k : Int) - 1) ∧ r = .int .u64 rest ∧ q = .int .u64 qq ∧ o = .bool over ∧ Dv s g k rest qq over ∧ rest < g ∧ qq < 18446744073709551616) (fun _ _ _ i => (intOf i + 1).toNat)
  case atStart => exact ⟨88, 0, 0, false, by omega, rfl, rfl, rfl, rfl, D0, hg, by omega⟩
  case round =>
    obtain ⟨k, rest, q, over, hk, rfl, rfl, rfl, rfl, hD, hrest, hq⟩ := hrel
    rcases k with _ | j
    · have hF := Shut.mk (hD.fin n hn)
      clear hD D0
      cases over
      · by_cases hr : rest = 0
        · subst hr
          go_wp2
          go_ret
          exact ⟨ret_b (by rw [hF.out]; simp), rfl⟩
        · have hr' : (0 : Int) < (rest : Int) := by omega
          by_cases hqm : q = 18446744073709551615
          · have hB : ((q : Int) == 18446744073709551615) = true := by rw [beq_iff_eq]; omega
            have HQ := Shut.mk hqm
            clear hqm hn hs hq
            go_wp2
            go_ret
            exact ⟨ret_b (by rw [hF.out, if_pos (.inr ⟨by omega, HQ.out⟩)]), rfl⟩
          · have hB : ((q : Int) == 18446744073709551615) = false := by rw [beq_eq_false_iff_ne]; omega
            have HQ := Shut.mk hqm
            have HQ2 : q < 18446744073709551615 := by omega
            clear hqm hn hs hq
            go_wp2
            go_ret
            refine ⟨ret_b ?_, rfl⟩
            rw [hF.out, if_neg (by simp [HQ.out]), if_pos (by omega), Bool.eq_iff_iff]
            simp
            omega
      · go_wp2
        go_ret
        exact ⟨ret_b (by rw [hF.out]; simp), rfl⟩
    · have ej : ((j + 1 : Nat) : Int) - 1 = (j : Int) := by omega
      rw [ej]
      clear ej
      have hbt := bitAt_le s j
      by_cases hj : 24 ≤ j
      · have eb : bits BinOp.and IntKind.u64 ((s : Int) / 2 ^ (j - 24)) 1 = ((bitAt s j : Nat) : Int) := by
          unfold bitAt; rw [if_pos hj]; exact shr_and_one s (j - 24) hs
        have hj' : (24 : Int) ≤ (j : Int) := by omega
        cases over
        · by_cases hge : g ≤ 2 * rest + bitAt s j
          · have hge' : (g : Int) ≤ 2 * (rest : Int) + (bitAt s j : Int) := by omega
            as_aux_lemma =>
            have hD' := Shut.mk (hD.more hge (by omega))
            have HJ := Shut.mk hj
            clear hD D0
            generalize bitAt s j = bt at *
            go_wp2
            go_round
            case rel => exact ⟨j, 2 * rest + bt - g, (2 * q % 18446744073709551616 + 1) % 18446744073709551616, _, by omega, rfl, val_u' (by omega), val_u' (by simp only [IntKind.wrap_u64]; omega), val_b (over_f q hq), hD'.out, hD'.out.lt, by omega⟩
            case measure => simp [intOf]
          · have hge' : 2 * (rest : Int) + (bitAt s j : Int) < (g : Int) := by omega
            as_aux_lemma =>
            have hD' := Shut.mk (hD.less hge (by omega))
            have HJ := Shut.mk hj
            clear hD D0
            generalize bitAt s j = bt at *
            go_wp2
            go_round
            case rel => exact ⟨j, 2 * rest + bt, 2 * q % 18446744073709551616, _, by omega, rfl, val_u' (by omega), val_u' (by simp only [IntKind.wrap_u64]; omega), val_b (over_f q hq), hD'.out, hD'.out.lt, by omega⟩
            case measure => simp [intOf]
        · by_cases hge : g ≤ 2 * rest + bitAt s j
          · have hge' : (g : Int) ≤ 2 * (rest : Int) + (bitAt s j : Int) := by omega
            as_aux_lemma =>
            have hD' := Shut.mk (hD.more hge (by omega))
            have HJ := Shut.mk hj
            clear hD D0
            generalize bitAt s j = bt at *
            go_wp2
            go_round
            case rel => exact ⟨j, 2 * rest + bt - g, (2 * q % 18446744073709551616 + 1) % 18446744073709551616, _, by omega, rfl, val_u' (by omega), val_u' (by simp only [IntKind.wrap_u64]; omega), val_b (rfl), hD'.out, hD'.out.lt, by omega⟩
            case measure => simp [intOf]
          · have hge' : 2 * (rest : Int) + (bitAt s j : Int) < (g : Int) := by omega
            as_aux_lemma =>
            have hD' := Shut.mk (hD.less hge (by omega))
            have HJ := Shut.mk hj
            clear hD D0
            generalize bitAt s j = bt at *
            go_wp2
            go_round
            case rel => exact ⟨j, 2 * rest + bt, 2 * q % 18446744073709551616, _, by omega, rfl, val_u' (by omega), val_u' (by simp only [IntKind.wrap_u64]; omega), val_b (rfl), hD'.out, hD'.out.lt, by omega⟩
            case measure => simp [intOf]
      · have eb : bitAt s j = 0 := by unfold bitAt; rw [if_neg hj]
        have hj' : (j : Int) < 24 := by omega
        cases over
        · by_cases hge : g ≤ 2 * rest + bitAt s j
          · have hge' : (g : Int) ≤ 2 * (rest : Int) + (bitAt s j : Int) := by omega
            as_aux_lemma =>
            have hD' := Shut.mk (hD.more hge (by omega))
            have HJ := Shut.mk hj
            clear hD D0
            generalize bitAt s j = bt at *
            subst eb
            go_wp2
            go_round
            case rel => exact ⟨j, 2 * rest + 0 - g, (2 * q % 18446744073709551616 + 1) % 18446744073709551616, _, by omega, rfl, val_u' (by omega), val_u' (by simp only [IntKind.wrap_u64]; omega), val_b (over_f q hq), hD'.out, hD'.out.lt, by omega⟩
            case measure => simp [intOf]
          · have hge' : 2 * (rest : Int) + (bitAt s j : Int) < (g : Int) := by omega
            as_aux_lemma =>
            have hD' := Shut.mk (hD.less hge (by omega))
            have HJ := Shut.mk hj
            clear hD D0
            generalize bitAt s j = bt at *
            subst eb
            go_wp2
            go_round
            case rel => exact ⟨j, 2 * rest + 0, 2 * q % 18446744073709551616, _, by omega, rfl, val_u' (by omega), val_u' (by simp only [IntKind.wrap_u64]; omega), val_b (over_f q hq), hD'.out, hD'.out.lt, by omega⟩
            case measure => simp [intOf]
        · by_cases hge : g ≤ 2 * rest + bitAt s j
          · have hge' : (g : Int) ≤ 2 * (rest : Int) + (bitAt s j : Int) := by omega
            as_aux_lemma =>
            have hD' := Shut.mk (hD.more hge (by omega))
            have HJ := Shut.mk hj
            clear hD D0
            generalize bitAt s j = bt at *
            subst eb
            go_wp2
            go_round
            case rel => exact ⟨j, 2 * rest + 0 - g, (2 * q % 18446744073709551616 + 1) % 18446744073709551616, _, by omega, rfl, val_u' (by omega), val_u' (by simp only [IntKind.wrap_u64]; omega), val_b (rfl), hD'.out, hD'.out.lt, by omega⟩
            case measure => simp [intOf]
          · have hge' : 2 * (rest : Int) + (bitAt s j : Int) < (g : Int) := by omega
            as_aux_lemma =>
            have hD' := Shut.mk (hD.less hge (by omega))
            have HJ := Shut.mk hj
            clear hD D0
            generalize bitAt s j = bt at *
            subst eb
            go_wp2
            go_round
            case rel => exact ⟨j, 2 * rest + 0, 2 * q % 18446744073709551616, _, by omega, rfl, val_u' (by omega), val_u' (by simp only [IntKind.wrap_u64]; omega), val_b (rfl), hD'.out, hD'.out.lt, by omega⟩
            case measure => simp [intOf]

/-- The reference's test, at every number. -/
theorem rleast_any (n g s : Nat) (w : World) (hn : n < 18446744073709551616) (hs : s < 18446744073709551616) (hgb : g < 1073741824) :
    Calls Try.prog 26 #[.int .u64 n, .int .u64 g, .int .u64 s] w fun e w' => e = .returned (.bool (decide (s * 16777216 ≤ n * g))) ∧ w = w' := by
  by_cases hs0 : s = 0
  · subst hs0
    go_enter Try.func26, Try.ntmps26
    go_wp2
    go_ret
    exact ⟨ret_b (by simp), rfl⟩
  · by_cases hg : g = 0
    · subst hg
      have e1 : ((s : Int) == 0) = false := by simp; omega
      have HS := Shut.mk hs0
      clear hs0 hs hn
      go_enter Try.func26, Try.ntmps26
      go_wp2
      go_ret
      exact ⟨ret_b (by have := HS.out; simp; omega), rfl⟩
    · exact rleast_pos n g s w hn hs (by omega) (by omega) hgb

theorem passes_no (a b s n : Nat) (h : b = 0 ∨ a ≤ b) : Ct.passes a b s n = false := by
  unfold Ct.passes
  rw [decide_eq_false_iff_not]
  omega

theorem passes_yes (a b s n : Nat) (h1 : b ≠ 0) (h2 : ¬ a ≤ b) : Ct.passes a b s n = decide (s * 16777216 ≤ n * Ct.gain a b) := by
  unfold Ct.passes
  rw [Bool.eq_iff_iff, decide_eq_true_eq, decide_eq_true_eq]
  constructor
  · exact fun h => h.2.2
  · exact fun h => ⟨h1, by omega, h⟩

/-- The reference, at every number that is not below 0. -/
theorem rpasses_any (a b s n : Nat) (w : World) (ha : a < 18446744073709551616) (hb : b < 18446744073709551616) (hs : s < 18446744073709551616) (hn : n < 9223372036854775808) :
    Calls Try.prog 13 #[.int .u64 a, .int .u64 b, .int .u64 s, .int .i64 n] w fun e w' => e = .returned (.bool (Ct.passes a b s n)) ∧ w = w' := by
  by_cases h0 : b = 0
  · rw [passes_no a b s n (.inl h0)]
    subst h0
    go_enter Try.func13, Try.ntmps13
    go_wp2
    go_ret
    exact ⟨rfl, rfl⟩
  · have e0 : ((b : Int) == 0) = false := by simp; omega
    by_cases h1 : a ≤ b
    · rw [passes_no a b s n (.inr h1)]
      have H1 : (a : Int) ≤ (b : Int) := by omega
      clear h0 ha hb hs
      go_enter Try.func13, Try.ntmps13
      go_wp2
      go_ret
      exact ⟨rfl, rfl⟩
    · rw [passes_yes a b s n h0 h1]
      have H1 : ¬ (a : Int) ≤ (b : Int) := by omega
      have C1 := Shut.mk (fun w => rgain_any a b w ha hb)
      have C2 := Shut.mk (fun w => rleast_any n (Ct.gain a b) s w (by omega) hs (Ct.gain_lt a b ha))
      clear h0 ha hb hs h1
      generalize Ct.gain a b = g at *
      generalize decide (s * 16777216 ≤ n * g) = r at *
      go_enter Try.func13, Try.ntmps13
      go_wp2_with fail
      refine (C1.out _).mono ?_
      rintro e w1 ⟨rfl, rfl⟩
      go_wp2_with fail
      refine (C2.out _).mono ?_
      rintro e w1 ⟨rfl, rfl⟩
      go_wp2_with fail
      go_ret
      exact ⟨rfl, rfl⟩

theorem rpasses_neg (a b s : Nat) (n : Int) (w : World) (hn : n < 0) :
    Calls Try.prog 13 #[.int .u64 a, .int .u64 b, .int .u64 s, .int .i64 n] w fun e w' => e = .returned (.bool false) ∧ w = w' := by
  by_cases h0 : b = 0
  · subst h0
    go_enter Try.func13, Try.ntmps13
    go_wp2
    go_ret
    exact ⟨rfl, rfl⟩
  · have e0 : ((b : Int) == 0) = false := by simp; omega
    by_cases h1 : (a : Int) ≤ (b : Int)
    · clear h0
      go_enter Try.func13, Try.ntmps13
      go_wp2
      go_ret
      exact ⟨rfl, rfl⟩
    · clear h0
      go_enter Try.func13, Try.ntmps13
      go_wp2
      go_ret
      exact ⟨rfl, rfl⟩

/-- The program. -/
theorem passes_neg (a b s : Nat) (n : Int) (w : World) (hn : n < 0) :
    Calls Try.prog 12 #[.int .u64 a, .int .u64 b, .int .u64 s, .int .i64 n] w fun e w' => e = .returned (.bool false) ∧ Below w.heap.size w w' := by
  by_cases h0 : b = 0
  · subst h0
    go_enter Try.func12, Try.ntmps12
    go_wp2
    go_ret
    exact ⟨rfl, Below.refl _ _⟩
  · have e0 : ((b : Int) == 0) = false := by simp; omega
    by_cases h1 : (a : Int) ≤ (b : Int)
    · clear h0
      go_enter Try.func12, Try.ntmps12
      go_wp2
      go_ret
      exact ⟨rfl, Below.refl _ _⟩
    · clear h0
      go_enter Try.func12, Try.ntmps12
      go_wp2
      go_ret
      exact ⟨rfl, Below.refl _ _⟩

/-- Two numbers of two words compare as the words do. -/
theorem words_cmp (x y : Nat) (hx : x < 340282366920938463463374607431768211456) (hy : y < 340282366920938463463374607431768211456) :
    decide (y ≤ x) = if x / 18446744073709551616 = y / 18446744073709551616 ∧ x % 18446744073709551616 = y % 18446744073709551616 then true
      else decide (cmp2 (x / 18446744073709551616) (x % 18446744073709551616) (y / 18446744073709551616) (y % 18446744073709551616) > 0) := by
  have ex := Nat.div_add_mod x 18446744073709551616
  have ey := Nat.div_add_mod y 18446744073709551616
  have hx2 := Nat.mod_lt x (show 0 < 18446744073709551616 by omega)
  have hy2 := Nat.mod_lt y (show 0 < 18446744073709551616 by omega)
  generalize x / 18446744073709551616 = a at *
  generalize x % 18446744073709551616 = b at *
  generalize y / 18446744073709551616 = c at *
  generalize y % 18446744073709551616 = d at *
  unfold cmp2 cmpN
  split
  · simp; omega
  · rw [Bool.eq_iff_iff]
    simp only [decide_eq_true_eq]
    split <;> (repeat' split) <;> (try omega)

theorem passes_any (a b s n : Nat) (w : World) (ha : a < 18446744073709551616) (hb : b < 18446744073709551616) (hs : s < 18446744073709551616) (hn : n < 9223372036854775808) :
    Calls Try.prog 12 #[.int .u64 a, .int .u64 b, .int .u64 s, .int .i64 n] w fun e w' => e = .returned (.bool (Ct.passes a b s n)) ∧ Below w.heap.size w w' := by
  by_cases h0 : b = 0
  · rw [passes_no a b s n (.inl h0)]
    subst h0
    go_enter Try.func12, Try.ntmps12
    go_wp2
    go_ret
    exact ⟨rfl, Below.refl _ _⟩
  · have e0 : ((b : Int) == 0) = false := by simp; omega
    by_cases h1 : a ≤ b
    · rw [passes_no a b s n (.inr h1)]
      have H1 : (a : Int) ≤ (b : Int) := by omega
      clear h0 ha hb hs
      go_enter Try.func12, Try.ntmps12
      go_wp2
      go_ret
      exact ⟨rfl, Below.refl _ _⟩
    · rw [passes_yes a b s n h0 h1]
      have hg := Ct.gain_lt a b ha
      have m1 : n * Ct.gain a b ≤ 9223372036854775808 * 1073741824 := Nat.mul_le_mul (by omega) (by omega)
      refine passes_mid a b s n (Ct.gain a b) _ _ _ _ _ w h0 h1 hn ⟨fun w => gain_any a b w ha hb⟩ ⟨fun w => ctimes_any n (Ct.gain a b) w (by omega) (by omega)⟩ ⟨fun w => ctimes_any s 16777216 w hs (by omega)⟩ ⟨?_⟩
      exact words_cmp _ _ (by omega) (by omega)

end Go.Proofs.Ytnnpfmelfhgdcaa
