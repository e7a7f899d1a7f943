/- Walks over package count and its reference: how many are enough. -/
import Derived.Test.YtnnpfmelfhgdcaaCountR
namespace Go.Proofs.Ytnnpfmelfhgdcaa
set_option linter.unusedVariables false
open Go.RowKit Go.Shelf

/-- The first number from i on at which p holds, f numbers being asked. -/
def Ct.first (p : Nat → Bool) : Nat → Nat → Nat
  | 0, i => i
  | f + 1, i => if p i then i else Ct.first p f (i + 1)

theorem Ct.first_le (p : Nat → Bool) : ∀ f i, i ≤ Ct.first p f i ∧ Ct.first p f i ≤ i + f := by
  intro f
  induction f with
  | zero => intro i; exact ⟨Nat.le_refl _, Nat.le_refl _⟩
  | succ f ih =>
    intro i
    unfold Ct.first
    split
    · omega
    · have := ih (i + 1); omega

theorem Ct.first_no (p : Nat → Bool) : ∀ f i j, i ≤ j → j < Ct.first p f i → p j = false := by
  intro f
  induction f with
  | zero => intro i j h1 h2; simp [Ct.first] at h2; omega
  | succ f ih =>
    intro i j h1 h2
    unfold Ct.first at h2
    split at h2
    · omega
    · rename_i hp
      rcases Nat.eq_or_lt_of_le h1 with rfl | h
      · simpa using hp
      · exact ih (i + 1) j h h2

theorem Ct.first_yes (p : Nat → Bool) : ∀ f i, Ct.first p f i < i + f → p (Ct.first p f i) = true := by
  intro f
  induction f with
  | zero => intro i h; simp [Ct.first] at h
  | succ f ih =>
    intro i h
    unfold Ct.first at h ⊢
    split
    · assumption
    · rename_i hp
      rw [if_neg hp] at h
      exact ih (i + 1) (by omega)

/-- The least number that is enough; 641 if there is none. -/
def Ct.k (a b s : Nat) : Nat := Ct.first (Ct.passes a b s) 641 0

theorem Ct.k_le (a b s : Nat) : Ct.k a b s ≤ 641 := by have := (Ct.first_le (Ct.passes a b s) 641 0).2; unfold Ct.k; omega
theorem Ct.k_no (a b s j : Nat) (h : j < Ct.k a b s) : Ct.passes a b s j = false := Ct.first_no _ 641 0 j (Nat.zero_le _) h
theorem Ct.k_yes (a b s : Nat) (h : Ct.k a b s < 641) : Ct.passes a b s (Ct.k a b s) = true := Ct.first_yes _ 641 0 (by unfold Ct.k at h; omega)

theorem Ct.passes_more (a b s m n : Nat) (h : m ≤ n) (hp : Ct.passes a b s m = true) : Ct.passes a b s n = true := by
  unfold Ct.passes at *
  rw [decide_eq_true_eq] at *
  exact ⟨hp.1, hp.2.1, Nat.le_trans hp.2.2 (Nat.mul_le_mul_right _ h)⟩

theorem Ct.passes_k (a b s n : Nat) (hn : n < 641) : Ct.passes a b s n = decide (Ct.k a b s ≤ n) := by
  rcases Nat.lt_or_ge n (Ct.k a b s) with h | h
  · rw [Ct.k_no a b s n h, eq_comm, decide_eq_false_iff_not]; omega
  · rw [Ct.passes_more a b s _ n h (Ct.k_yes a b s (by omega)), eq_comm, decide_eq_true_eq]; exact h

def Ct.leastN (a b s : Nat) : Nat := if b = 0 ∨ a ≤ b then 0 else if 640 < Ct.k a b s then 0 else Ct.k a b s
def Ct.leastE (a b s : Nat) : Nat := if b = 0 then 2 else if a ≤ b then 6 else if 640 < Ct.k a b s then 13 else 0

theorem ret_ie {a b c d : Int} (h1 : a = b) (h2 : c = d) : Ending.returned (.tuple #[.int .i64 a, .int .i64 c]) = .returned (.tuple #[.int .i64 b, .int .i64 d]) := by rw [h1, h2]

set_option maxHeartbeats 1000000 in
theorem rleast_any' (a b s : Nat) (w : World) (ha : a < 18446744073709551616) (hb : b < 18446744073709551616) (hs : s < 18446744073709551616) :
    Calls Try.prog 16 #[.int .u64 a, .int .u64 b, .int .u64 s] w fun e w' =>
      e = .returned (.tuple #[.int .i64 (Ct.leastN a b s), .int .i64 (Ct.leastE a b s)]) ∧ w = w' := by
  unfold Ct.leastN Ct.leastE
  by_cases h0 : b = 0
  · rw [if_pos (.inl h0), if_pos h0]
    subst h0
    go_enter Try.func16, Try.ntmps16
    go_wp2
    go_ret2
    exact ⟨rfl, rfl⟩
  · have e0 : ((b : Int) == 0) = false := by simp; omega
    by_cases h1 : a ≤ b
    · rw [if_pos (.inr h1), if_neg h0, if_pos h1]
      have H1 : (a : Int) ≤ (b : Int) := by omega
      clear h0 ha hb hs
      go_enter Try.func16, Try.ntmps16
      go_wp2
      go_ret2
      exact ⟨rfl, rfl⟩
    · rw [if_neg (by omega), if_neg h0, if_neg h1]
      have H1 : ¬ (a : Int) ≤ (b : Int) := by omega
      have C := Shut.mk (fun n (hn : n < 641) w => Ct.passes_k a b s n hn ▸ rpasses_any a b s n w ha hb hs (by omega))
      have hk := Ct.k_le a b s
      clear h0 ha hb hs h1
      generalize Ct.k a b s = k at *
      go_enter Try.func16, Try.ntmps16
      go_wp2_with fail
      go_loop [8] (fun n => ∃ m : Nat, m ≤ k ∧ n = .int .i64 m) (fun n => 641 - (intOf n).toNat)
      case atStart => exact ⟨0, by omega, rfl⟩
      case round =>
        obtain ⟨m, hm, rfl⟩ := hrel
        by_cases hm2 : m < 641
        · rcases Nat.lt_or_ge m k with h | h
          · have C' := Shut.mk (C.out m hm2)
            rw [decide_eq_false (by omega)] at C'
            go_wp2_with fail
            refine (C'.out _).mono ?_
            rintro e w1 ⟨rfl, rfl⟩
            go_wp2_with fail
            go_round
            case rel => exact ⟨m + 1, by omega, by go_num⟩
            case measure => simp [intOf]; omega
          · have C' := Shut.mk (C.out m hm2)
            rw [decide_eq_true h] at C'
            go_wp2_with fail
            refine (C'.out _).mono ?_
            rintro e w1 ⟨rfl, rfl⟩
            go_wp2_with fail
            go_ret2
            exact ⟨ret_ie (by omega) rfl, rfl⟩
        · go_wp2_with fail
          go_ret2
          exact ⟨ret_ie rfl rfl, rfl⟩

/-- The boxes that the closure has captured. -/
def CapI (a b s B : Nat) (W : World) : Prop := Boxed W B 22 (.int .u64 a) ∧ Boxed W (B + 1) 22 (.int .u64 b) ∧ Boxed W (B + 2) 22 (.int .u64 s)

theorem CapI.below {a b s B : Nat} {W W' : World} (h : CapI a b s B W) (hb : Below W.heap.size W W') : CapI a b s B W' :=
  ⟨(hb.block _ h.1.lt).trans h.1, (hb.block _ h.2.1.lt).trans h.2.1, (hb.block _ h.2.2.lt).trans h.2.2⟩

theorem closure_any (a b s n B : Nat) (W : World) (ha : a < 18446744073709551616) (hb : b < 18446744073709551616) (hs : s < 18446744073709551616) (hn : n < 9223372036854775808) (hc : CapI a b s B W) :
    Calls Try.prog 28 #[.int .i64 n, .pointer (some ⟨B, 0, none⟩), .pointer (some ⟨B + 1, 0, none⟩), .pointer (some ⟨B + 2, 0, none⟩)] W fun e W' =>
      e = .returned (.bool (Ct.passes a b s n)) ∧ Below W.heap.size W W' := by
  have C := Shut.mk (fun w => passes_any a b s n w ha hb hs hn)
  have c1 := hc.1.cell
  have c2 := hc.2.1.cell
  have c3 := hc.2.2.cell
  clear ha hb hs hn hc
  go_enter Try.func28, Try.ntmps28
  go_wp2_with fail
  refine (C.out _).mono ?_
  rintro e w1 ⟨rfl, hb1⟩
  go_wp2_with fail
  go_ret
  exact ⟨rfl, hb1⟩

set_option maxHeartbeats 1000000 in
theorem search_any (a b s B : Nat) (w : World) (ha : a < 18446744073709551616) (hb : b < 18446744073709551616) (hs : s < 18446744073709551616) (hc : CapI a b s B w) :
    Calls Try.prog 27 #[.int .i64 641, .func (.func 28) #[] #[.pointer (some ⟨B, 0, none⟩), .pointer (some ⟨B + 1, 0, none⟩), .pointer (some ⟨B + 2, 0, none⟩)]] w fun e w' =>
      e = .returned (.int .i64 (Ct.k a b s)) ∧ Below w.heap.size w w' := by
  have C := Shut.mk (fun n (hn : n < 641) W (hc : CapI a b s B W) => Ct.passes_k a b s n hn ▸ closure_any a b s n B W ha hb hs (by omega) hc)
  have hk := Ct.k_le a b s
  clear ha hb hs
  generalize Ct.k a b s = k at *
  go_enter Try.func27, Try.ntmps27
  go_wp2_with fail
  go_loopw [5, 6] (fun i j wr => ∃ x y : Nat, x ≤ k ∧ k ≤ y ∧ y ≤ 641 ∧ i = .int .i64 x ∧ j = .int .i64 y ∧ CapI a b s B wr ∧ Below w.heap.size w wr) (fun i j _ => (intOf j - intOf i).toNat)
  case atStart => exact ⟨0, 641, by omega, hk, by omega, rfl, rfl, hc, Below.refl _ _⟩
  case round =>
    obtain ⟨x, y, hx, hy, hy2, rfl, rfl, hc', hb'⟩ := hrel
    by_cases hlt : x < y
    · obtain ⟨h, eh⟩ : ∃ h : Nat, ((x : Int) + (y : Int)) / 2 = (h : Int) := ⟨(x + y) / 2, by omega⟩
      have h1 : x ≤ h ∧ h < y := by omega
      have C' := Shut.mk (C.out h (by omega) wr hc')
      go_wp2_with fail
      by_cases hkh : k ≤ h
      · rw [decide_eq_true hkh] at C'
        refine (C'.out).mono ?_
        rintro e w1 ⟨rfl, hb1⟩
        clear eh
        go_wp2_with fail
        go_roundw
        case rel => exact ⟨x, h, hx, hkh, by omega, rfl, rfl, hc'.below hb1, below3 hb' hb1⟩
        case measure => simp [intOf]; omega
      · rw [decide_eq_false hkh] at C'
        refine (C'.out).mono ?_
        rintro e w1 ⟨rfl, hb1⟩
        clear eh
        go_wp2_with fail
        go_roundw
        case rel => exact ⟨h + 1, y, by omega, hy, hy2, by go_num, rfl, hc'.below hb1, below3 hb' hb1⟩
        case measure => simp [intOf]; omega
    · obtain rfl : x = k := by omega
      go_wp2_with fail
      go_ret
      exact ⟨rfl, hb'⟩

set_option maxHeartbeats 1000000 in
theorem least_any (a b s : Nat) (w : World) (ha : a < 18446744073709551616) (hb : b < 18446744073709551616) (hs : s < 18446744073709551616) :
    Calls Try.prog 15 #[.int .u64 a, .int .u64 b, .int .u64 s] w fun e w' =>
      e = .returned (.tuple #[.int .i64 (Ct.leastN a b s), .int .i64 (Ct.leastE a b s)]) ∧ Below w.heap.size w w' := by
  have A3 : ∀ (w : World), Below w.heap.size w (((w.alloc (.cells #[.int .u64 (a : Int)] 22)).alloc (.cells #[.int .u64 (b : Int)] 22)).alloc (.cells #[.int .u64 (s : Int)] 22)) :=
    fun w => (((Below.refl _ w).alloc (Nat.le_refl _) _).alloc (by simp) _).alloc (by simp; omega) _
  have A4 := Shut.mk A3
  clear A3
  unfold Ct.leastN Ct.leastE
  by_cases h0 : b = 0
  · rw [if_pos (.inl h0), if_pos h0]
    subst h0
    go_enter Try.func15, Try.ntmps15
    go_wp2
    go_ret2
    exact ⟨rfl, A4.out w⟩
  · have e0 : ((b : Int) == 0) = false := by simp; omega
    by_cases h1 : a ≤ b
    · rw [if_pos (.inr h1), if_neg h0, if_pos h1]
      have H1 : (a : Int) ≤ (b : Int) := by omega
      clear h0 ha hb hs
      go_enter Try.func15, Try.ntmps15
      go_wp2
      go_ret2
      exact ⟨rfl, A4.out w⟩
    · rw [if_neg (by omega), if_neg h0, if_neg h1]
      have H1 : ¬ (a : Int) ≤ (b : Int) := by omega
      have HC : ∀ (w : World), CapI a b s w.heap.size (((w.alloc (.cells #[.int .u64 (a : Int)] 22)).alloc (.cells #[.int .u64 (b : Int)] 22)).alloc (.cells #[.int .u64 (s : Int)] 22)) := by
        intro w
        refine ⟨((Boxed.new w _ _).alloc _).alloc _, ?_, ?_⟩
        · have := Boxed.new (w.alloc (.cells #[.int .u64 (a : Int)] 22)) 22 (.int .u64 (b : Int))
          rw [World.size_alloc] at this
          exact this.alloc _
        · have := Boxed.new ((w.alloc (.cells #[.int .u64 (a : Int)] 22)).alloc (.cells #[.int .u64 (b : Int)] 22)) 22 (.int .u64 (s : Int))
          rw [World.size_alloc, World.size_alloc] at this
          exact this
      have C := Shut.mk (search_any a b s w.heap.size _ ha hb hs (HC w))
      have hk := Ct.k_le a b s
      clear h0 ha hb hs h1 HC
      generalize Ct.k a b s = k at *
      by_cases h640 : 640 < k
      · go_enter Try.func15, Try.ntmps15
        go_wp2_with fail
        refine C.out.mono ?_
        rintro e w1 ⟨rfl, hb1⟩
        go_wp2_with fail
        go_ret2
        exact ⟨ret_ie rfl rfl, below3 (A4.out w) hb1⟩
      · go_enter Try.func15, Try.ntmps15
        go_wp2_with fail
        refine C.out.mono ?_
        rintro e w1 ⟨rfl, hb1⟩
        go_wp2_with fail
        go_ret2
        exact ⟨ret_ie rfl rfl, below3 (A4.out w) hb1⟩

end Go.Proofs.Ytnnpfmelfhgdcaa
