/- Walks over package count: gains, products, how two compare. -/
import Derived.Test.YtnnpfmelfhgdcaaLog2L
import Derived.Laws.EntriesVeiled
namespace Go.Proofs.Ytnnpfmelfhgdcaa
set_option linter.unusedVariables false
open Go.RowKit Go.Shelf

/-- A fact shut away: no tactic looks into it. -/
structure Shut (p : Prop) : Prop where
  out : p

theorem below3 {w a b : World} (h1 : Below w.heap.size w a) (h2 : Below a.heap.size a b) : Below w.heap.size w b := h1.trans (h2.mono h1.size)

/-- Every cell and every mark that was there is as it was. -/
theorem bcell {W w1 : World} (hb : Below W.heap.size W w1) : (∀ b o, b < W.heap.size → w1.cell? ⟨b, o, none⟩ = W.cell? ⟨b, o, none⟩) ∧ (∀ b o, b < W.heap.size → w1.frozen? ⟨b, o, none⟩ = W.frozen? ⟨b, o, none⟩) :=
  ⟨fun b o h => hb.cell (p := ⟨b, o, none⟩) h, fun b o h => hb.frozen (p := ⟨b, o, none⟩) h⟩

/-- How much a reveal brings. -/
def Ct.gain (a b : Nat) : Nat := if b = 0 ∨ a ≤ b then 0 else L2.lo a - L2.hi b

theorem Ct.gain_lt (a b : Nat) (ha : a < 18446744073709551616) : Ct.gain a b < 1073741824 := by
  unfold Ct.gain
  split
  · omega
  · have := L2.lo_lt a ha; omega

theorem gain_any (a b : Nat) (w : World) (ha : a < 18446744073709551616) (hb : b < 18446744073709551616) :
    Calls Try.prog 10 #[.int .u64 a, .int .u64 b] w fun e w' => e = .returned (.int .u64 (Ct.gain a b)) ∧ Below w.heap.size w w' := by
  unfold Ct.gain
  by_cases h0 : b = 0
  · subst h0
    rw [if_pos (.inl rfl)]
    go_enter Try.func10, Try.ntmps10
    go_wp2
    go_ret
    exact ⟨rfl, Below.refl _ _⟩
  · have e0 : ((b : Int) == 0) = false := by simp; omega
    by_cases h1 : a ≤ b
    · rw [if_pos (.inr h1)]
      have H1 : (a : Int) ≤ (b : Int) := by omega
      clear h0 ha hb
      go_enter Try.func10, Try.ntmps10
      go_wp2
      go_ret
      exact ⟨rfl, Below.refl _ _⟩
    · rw [if_neg (by omega)]
      have C1 := Shut.mk (fun w => hi_any b w hb)
      have C2 := Shut.mk (fun w => lo_any a w ha)
      have b1 := L2.lo_lt a ha
      have b2 := L2.hi_le b hb
      have H1 : ¬ (a : Int) ≤ (b : Int) := by omega
      clear h0 ha hb h1
      generalize L2.lo a = x at *
      generalize L2.hi b = y at *
      go_enter Try.func10, Try.ntmps10
      go_wp2_with fail
      refine (C1.out _).mono ?_
      rintro e w1 ⟨rfl, hb1⟩
      go_wp2_with fail
      refine (C2.out _).mono ?_
      rintro e w2 ⟨rfl, hb2⟩
      go_wp2_with fail
      go_ret
      refine ⟨ret_u ?_, below3 hb1 hb2⟩
      omega

theorem rgain_any (a b : Nat) (w : World) (ha : a < 18446744073709551616) (hb : b < 18446744073709551616) :
    Calls Try.prog 11 #[.int .u64 a, .int .u64 b] w fun e w' => e = .returned (.int .u64 (Ct.gain a b)) ∧ w = w' := by
  unfold Ct.gain
  by_cases h0 : b = 0
  · subst h0
    rw [if_pos (.inl rfl)]
    go_enter Try.func11, Try.ntmps11
    go_wp2
    go_ret
    exact ⟨rfl, rfl⟩
  · have e0 : ((b : Int) == 0) = false := by simp; omega
    by_cases h1 : a ≤ b
    · rw [if_pos (.inr h1)]
      have H1 : (a : Int) ≤ (b : Int) := by omega
      clear h0 ha hb
      go_enter Try.func11, Try.ntmps11
      go_wp2
      go_ret
      exact ⟨rfl, rfl⟩
    · rw [if_neg (by omega)]
      have C1 := Shut.mk (fun w => rhi_any b w hb)
      have C2 := Shut.mk (fun w => rlo_any a w ha)
      have b1 := L2.lo_lt a ha
      have b2 := L2.hi_le b hb
      have H1 : ¬ (a : Int) ≤ (b : Int) := by omega
      clear h0 ha hb h1
      generalize L2.lo a = x at *
      generalize L2.hi b = y at *
      go_enter Try.func11, Try.ntmps11
      go_wp2_with fail
      refine (C2.out _).mono ?_
      rintro e w1 ⟨rfl, rfl⟩
      go_wp2_with fail
      refine (C1.out _).mono ?_
      rintro e w2 ⟨rfl, rfl⟩
      by_cases hxy : x < y
      · go_wp2_with fail
        go_ret
        exact ⟨ret_u (by omega), rfl⟩
      · go_wp2_with fail
        go_ret
        exact ⟨ret_u (by omega), rfl⟩

/-- How two numbers compare. -/
def cmpN (x y : Nat) : Int := if x < y then -1 else if y < x then 1 else 0

theorem ret_i {a b : Int} (h : a = b) : Ending.returned (.int .i64 a) = .returned (.int .i64 b) := by rw [h]

theorem compare_any (x y : Nat) (w : World) :
    Calls Try.prog 35 #[.int .u64 x, .int .u64 y] w fun e w' => e = .returned (.int .i64 (cmpN x y)) ∧ w = w' := by
  have n1 : ((x : Int) != (x : Int)) = false := by simp
  have n2 : ((y : Int) != (y : Int)) = false := by simp
  rcases Nat.lt_trichotomy x y with h | h | h
  · go_enter Try.func35, Try.ntmps35
    go_wp2
    go_ret
    exact ⟨ret_i (by simp [cmpN, h]), rfl⟩
  · subst h
    go_enter Try.func35, Try.ntmps35
    go_wp2
    go_ret
    exact ⟨ret_i (by simp [cmpN]), rfl⟩
  · have h' : ¬ x < y := by omega
    go_enter Try.func35, Try.ntmps35
    go_wp2
    go_ret
    exact ⟨ret_i (by simp [cmpN, h, h']), rfl⟩

theorem ctimes_any (x y : Nat) (w : World) (hx : x < 18446744073709551616) (hy : y < 18446744073709551616) :
    Calls Try.prog 24 #[.int .u64 x, .int .u64 y] w fun e w' =>
      e = .returned (.agg #[.int .u64 (x * y / 18446744073709551616 : Nat), .int .u64 (x * y % 18446744073709551616 : Nat)]) ∧ Below w.heap.size w w' := by
  have M := Shut.mk (fun w => Try.bits_Mul64 x y hx hy w)
  clear hx hy
  generalize x * y / 18446744073709551616 = h at *
  generalize x * y % 18446744073709551616 = l at *
  go_enter Try.func24, Try.ntmps24
  go_wp2_with fail
  refine (M.out _).mono ?_
  rintro e w1 ⟨rfl, hw1⟩
  rw [hw1]
  go_wp2_with fail
  refine bodyPost_ret (v := .agg #[.int .u64 h, .int .u64 l]) (by simp [results, Try.results24, go_sem]) rfl ⟨rfl, ?_⟩
  exact (Below.refl _ _).alloc (Nat.le_refl _) _

/-- How two pairs compare, the first first. -/
def cmp2 (x1 x2 y1 y2 : Nat) : Int := if cmpN x1 y1 = 0 then cmpN x2 y2 else cmpN x1 y1

set_option maxHeartbeats 400000 in
theorem scompare_any (b1 b2 x1 x2 y1 y2 : Nat) (w : World) (c11 : w.cell? ⟨b1, 0, none⟩ = some (.int .u64 x1)) (c12 : w.cell? ⟨b1, 1, none⟩ = some (.int .u64 x2))
    (c21 : w.cell? ⟨b2, 0, none⟩ = some (.int .u64 y1)) (c22 : w.cell? ⟨b2, 1, none⟩ = some (.int .u64 y2)) :
    Calls Try.prog 25 #[.slice (some ⟨b1, 0, none⟩) 2 2, .slice (some ⟨b2, 0, none⟩) 2 2] w fun e w' => e = .returned (.int .i64 (cmp2 x1 x2 y1 y2)) ∧ w' = w := by
  have C1 := Shut.mk (fun w => compare_any x1 y1 w)
  have C2 := Shut.mk (fun w => compare_any x2 y2 w)
  have K : Shut (∀ r, r = cmp2 x1 x2 y1 y2 → Ending.returned (.int .i64 r) = .returned (.int .i64 (cmp2 x1 x2 y1 y2))) := ⟨fun r h => by rw [h]⟩
  by_cases h1 : cmpN x1 y1 = 0
  · by_cases h2 : cmpN x2 y2 = 0
    · have E : Shut (cmp2 x1 x2 y1 y2 = 0) := ⟨by simp [cmp2, h1, h2]⟩
      rw [h1] at C1
      rw [h2] at C2
      clear h1 h2
      go_enter Try.func25, Try.ntmps25
      go_wp2_with fail
      refine wp_loop_rounds 3 ?_
      rw [rounds_succ]
      go_wp2_with fail
      refine (C1.out _).mono ?_
      rintro e w1 ⟨rfl, rfl⟩
      go_wp2_with fail
      rw [rounds_succ]
      go_wp2_with fail
      refine (C2.out _).mono ?_
      rintro e w1 ⟨rfl, rfl⟩
      go_wp2_with fail
      rw [rounds_succ]
      go_wp2_with fail
      go_ret
      exact ⟨ret_i E.out.symm, rfl⟩
    · have E : Shut (cmp2 x1 x2 y1 y2 = cmpN x2 y2) := ⟨by simp [cmp2, h1]⟩
      rw [h1] at C1
      have n2 : (cmpN x2 y2 != 0) = true := by simpa using h2
      clear h1 h2
      generalize cmpN x2 y2 = r at *
      go_enter Try.func25, Try.ntmps25
      go_wp2_with fail
      refine wp_loop_rounds 3 ?_
      rw [rounds_succ]
      go_wp2_with fail
      refine (C1.out _).mono ?_
      rintro e w1 ⟨rfl, rfl⟩
      go_wp2_with fail
      rw [rounds_succ]
      go_wp2_with fail
      refine (C2.out _).mono ?_
      rintro e w1 ⟨rfl, rfl⟩
      go_wp2_with fail
      go_ret
      exact ⟨ret_i E.out.symm, rfl⟩
  · have E : Shut (cmp2 x1 x2 y1 y2 = cmpN x1 y1) := ⟨by simp [cmp2, h1]⟩
    have n1 : (cmpN x1 y1 != 0) = true := by simpa using h1
    clear h1
    generalize cmpN x1 y1 = r at *
    go_enter Try.func25, Try.ntmps25
    go_wp2_with fail
    refine wp_loop_rounds 3 ?_
    rw [rounds_succ]
    go_wp2_with fail
    refine (C1.out _).mono ?_
    rintro e w1 ⟨rfl, rfl⟩
    go_wp2_with fail
    go_ret
    exact ⟨ret_i E.out.symm, rfl⟩

theorem und_wide : Try.prog.underlying 42 = some (.array 2 22) := by kernel_rfl
theorem und_u64 : Try.prog.underlying 22 = some (.int .u64) := by kernel_rfl
theorem eq_u64 (n : Nat) (a b : Int) (w : World) : (Op.equalIn (n + 1) 22 (.int .u64 a) (.int .u64 b)).run Try.prog w = .ok (a == b) w := by
  unfold Op.equalIn
  simp [run_underlying und_u64]
theorem part0 (x y : Value) (w : World) : (part 22 #[x, y] 0).run Try.prog w = .ok x w := by kernel_rfl
theorem part1 (x y : Value) (w : World) : (part 22 #[x, y] 1).run Try.prog w = .ok y w := by kernel_rfl
theorem eql_pair (a b c d : Int) (w : World) : (binOp .eql 42 (.agg #[.int .u64 a, .int .u64 b]) (.agg #[.int .u64 c, .int .u64 d])).run Try.prog w = .ok (.bool (a == c && b == d)) w := by
  simp only [binOp, Op.equal, Op.maxDepth]
  have e : (Op.equalIn 10000 42 (.agg #[.int .u64 a, .int .u64 b]) (.agg #[.int .u64 c, .int .u64 d])).run Try.prog w = .ok (a == c && b == d) w := by
    show (Op.equalIn (9999 + 1) _ _ _).run Try.prog w = _
    rw [Op.equalIn.eq_def]
    have e9 := fun a b w => eq_u64 9998 a b w
    simp [run_underlying und_wide, part0, part1, Std.Legacy.Range.forIn_eq_forIn_range', List.range', Std.Legacy.Range.size, e9]
    by_cases h1 : a = c <;> by_cases h2 : b = d <;> simp [h1, h2]
  simp [e]

end Go.Proofs.Ytnnpfmelfhgdcaa
