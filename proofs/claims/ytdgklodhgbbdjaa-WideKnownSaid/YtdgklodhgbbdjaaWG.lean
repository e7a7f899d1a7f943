/- Walks: add, sub, folded, Sub, Add. -/
import Derived.Test.YtdgklodhgbbdjaaWF
import Derived.Deep.RegionWith
namespace Go.Proofs.Ytdgklodhgbbdjaa
set_option linter.unusedVariables false
set_option linter.unusedSimpArgs false
open Go Go.RowKit

def sub64Entry : Array Value → Sem Value := fun args => do
  let (x, y, b) ← Extern.MathBitsCarry.three "Sub64" args
  pure (Extern.MathBitsCarry.pair ((x + Extern.MathBitsCarry.m64 - y - b) % Extern.MathBitsCarry.m64) (if x < y + b then 1 else 0))

theorem run_sub64 {P : Program} (x y c : Nat) (hc : c ≤ 1) (w : World) :
    (sub64Entry #[.int .u64 x, .int .u64 y, .int .u64 c]).run P w =
      .ok (.tuple #[.int .u64 (((x + 18446744073709551616 - y - c) % 18446744073709551616 : Nat) : Int), .int .u64 ((if x < y + c then 1 else 0 : Nat) : Int)]) w := by
  have key : ∀ k : Nat, k ≤ 1 → (sub64Entry #[.int .u64 x, .int .u64 y, .int .u64 (k : Int)]).run P w =
      .ok (Extern.MathBitsCarry.pair ((x + Extern.MathBitsCarry.m64 - y - k) % Extern.MathBitsCarry.m64) (if x < y + k then 1 else 0)) w := by
    intro k hk
    have : k = 0 ∨ k = 1 := by omega
    rcases this with rfl | rfl <;> rfl
  rw [key c hc]
  rfl

theorem sub64_run (x y c : Nat) (hc : c ≤ 1) (w : World) :
    (callFunc 43 #[.int .u64 x, .int .u64 y, .int .u64 c]).run Try.prog w =
      .ok (.value (.tuple #[.int .u64 (((x + 18446744073709551616 - y - c) % 18446744073709551616 : Nat) : Int), .int .u64 ((if x < y + c then 1 else 0 : Nat) : Int)])) w := by
  rw [run_callFunc_extern (P := Try.prog) (f := 43) (fn := Try.f43) (by kernel_rfl) (by kernel_rfl) (by kernel_rfl) (by kernel_rfl) (e := sub64Entry) (by kernel_rfl), run_sub64 x y c hc]
  rfl

theorem add64_run (x y c : Nat) (hc : c ≤ 1) (w : World) :
    (callFunc 42 #[.int .u64 x, .int .u64 y, .int .u64 c]).run Try.prog w =
      .ok (.value (.tuple #[.int .u64 (((x + y + c) % 18446744073709551616 : Nat) : Int), .int .u64 (((x + y + c) / 18446744073709551616 : Nat) : Int)])) w := by
  rw [run_callFunc_extern (P := Try.prog) (f := 42) (fn := Try.f42) (by kernel_rfl) (by kernel_rfl) (by kernel_rfl) (by kernel_rfl) (e := add64Entry) (by kernel_rfl), run_add64 x y c (by omega) (by omega) (by omega) (by omega)]
  simp only [Result.andThen]
  congr 5 <;> omega

theorem sub_any (x y c r o : Nat) (hc : c ≤ 1) (hr : r = (x + 18446744073709551616 - y - c) % 18446744073709551616) (ho : o = if x < y + c then 1 else 0) (w : World) :
    Calls Try.prog 36 #[.int .u64 x, .int .u64 y, .int .u64 c] w fun e w' => e = .returned (.tuple #[.int .u64 (r : Nat), .int .u64 (o : Nat)]) ∧ w = w' := by
  have SB := sub64_run x y c hc
  rw [← hr, ← ho] at SB
  clear hr ho
  go_enter Try.func36, Try.ntmps36
  go_wp2_with (simp only [SB])
  go_ret2
  exact ⟨rfl, rfl⟩

theorem add_any (x y c r o : Nat) (hc : c ≤ 1) (hr : r = (x + y + c) % 18446744073709551616) (ho : o = (x + y + c) / 18446744073709551616) (w : World) :
    Calls Try.prog 35 #[.int .u64 x, .int .u64 y, .int .u64 c] w fun e w' => e = .returned (.tuple #[.int .u64 (r : Nat), .int .u64 (o : Nat)]) ∧ w = w' := by
  have SB := add64_run x y c hc
  rw [← hr, ← ho] at SB
  clear hr ho
  go_enter Try.func35, Try.ntmps35
  go_wp2_with (simp only [SB])
  go_ret2
  exact ⟨rfl, rfl⟩

theorem ne_zero_b (c : Nat) : ((c : Int) != 0) = decide (c ≠ 0) := by
  rw [Bool.eq_iff_iff, decide_eq_true_iff, bne_iff_ne]; omega

/-- The first k places by f. -/
def fillOn (os : List Nat) (f : Nat → Nat) : Nat → List Nat
  | 0 => os
  | k + 1 => (fillOn os f k).set k (f k)

theorem fillOn_len (os : List Nat) (f : Nat → Nat) : ∀ k, (fillOn os f k).length = os.length
  | 0 => rfl
  | k + 1 => by rw [fillOn, List.length_set, fillOn_len os f k]

/-- Limbs folded with a carry: what a step answers, by the limbs and the carry. -/
def carryAt (do_ : Nat → Nat → Nat → Nat × Nat) (xs ys : List Nat) : Nat → Nat
  | 0 => 0
  | k + 1 => (do_ (xs.getD k 0) (ys.getD k 0) (carryAt do_ xs ys k)).2
def limbAt (do_ : Nat → Nat → Nat → Nat × Nat) (xs ys : List Nat) (k : Nat) : Nat := (do_ (xs.getD k 0) (ys.getD k 0) (carryAt do_ xs ys k)).1

def subOf (x y c : Nat) : Nat × Nat := ((x + 18446744073709551616 - y - c) % 18446744073709551616, if x < y + c then 1 else 0)
def addOf (x y c : Nat) : Nat × Nat := ((x + y + c) % 18446744073709551616, (x + y + c) / 18446744073709551616)

set_option maxRecDepth 100000 in
set_option maxHeartbeats 1000000 in
theorem folded_any (F : Nat) (do_ : Nat → Nat → Nat → Nat × Nat)
    (hF : F = 36 ∨ F = 35)
    (hc : ∀ x y c, c ≤ 1 → x < 18446744073709551616 → y < 18446744073709551616 → (do_ x y c).2 ≤ 1)
    (hdo : ∀ x y c, c ≤ 1 → ∀ W : World, Calls Try.prog F #[.int .u64 (x : Nat), .int .u64 (y : Nat), .int .u64 (c : Nat)] W fun e w' => e = .returned (.tuple #[.int .u64 ((do_ x y c).1 : Nat), .int .u64 ((do_ x y c).2 : Nat)]) ∧ W = w')
    (t g0 g1 g2 n B : Nat) (os xs ys : List Nat) (w : World) (h0 : RowAt w t g0 n (U os)) (h1 : RowAt w t g1 n (U xs)) (h2 : RowAt w t g2 n (U ys)) (l0 : os.length = n) (l1 : xs.length = n) (l2 : ys.length = n) (hn : n < 1000)
    (d1 : g1 ≠ g0) (d2 : g2 ≠ g0) (hB : B ≤ g0) (hx : ∀ x ∈ xs, x < 18446744073709551616) (hy : ∀ x ∈ ys, x < 18446744073709551616) :
    Calls Try.prog 34 #[.slice (some ⟨g0, 0, none⟩) n n, .slice (some ⟨g1, 0, none⟩) n n, .slice (some ⟨g2, 0, none⟩) n n, .func (.func F) #[] #[]] w fun e w' =>
      e = .returned (.bool (decide (carryAt do_ xs ys n ≠ 0))) ∧ RowAt w' t g0 n (U (fillOn os (limbAt do_ xs ys) n)) ∧ Below B w w' := by
  have R0 := Shut.mk h0
  have R1 := Shut.mk h1
  have R2 := Shut.mk h2
  have D := Shut.mk (And.intro d1 (And.intro d2 hB))
  have LL := Shut.mk (And.intro l0 (And.intro l1 l2))
  have HX := Shut.mk (And.intro hx hy)
  have HC := Shut.mk hc
  have HDO := Shut.mk hdo
  clear h0 h1 h2 d1 d2 hB l0 l1 l2 hx hy hc hdo
  rcases hF with rfl | rfl
  · go_enter Try.func34, Try.ntmps34
    go_wp2_with fail
    go_loopw [9, 13] (fun cv i wr => ∃ k : Nat, k ≤ n ∧ i = .int .i64 k ∧ cv = .int .u64 (carryAt do_ xs ys k : Nat) ∧ carryAt do_ xs ys k ≤ 1 ∧ RowAt wr t g0 n (U (fillOn os (limbAt do_ xs ys) k)) ∧ RowAt wr t g1 n (U xs) ∧ RowAt wr t g2 n (U ys) ∧ Below B w wr) (fun _ i _ => n - (intOf i).toNat)
    case atStart => exact ⟨0, by omega, rfl, rfl, Nat.zero_le _, R0.out, R1.out, R2.out, Below.refl _ _⟩
    case round =>
      obtain ⟨k, hk, rfl, rfl, hcar, r0, r1, r2, hb⟩ := hrel
      by_cases hkn : k < n
      · have hk2 : (k : Int) < (n : Int) := by omega
        have c0 := r0.u64 (k := k) (by rw [fillOn_len, LL.out.1]; exact hkn)
        have f0 := r0.frozen k
        have c1 := r1.u64 (k := k) (by rw [LL.out.2.1]; exact hkn)
        have c2 := r2.u64 (k := k) (by rw [LL.out.2.2]; exact hkn)
        have DO := Shut.mk (HDO.out (xs.getD k 0) (ys.getD k 0) (carryAt do_ xs ys k) hcar)
        have CN : Shut (carryAt do_ xs ys (k + 1) = (do_ (xs.getD k 0) (ys.getD k 0) (carryAt do_ xs ys k)).2 ∧ (do_ (xs.getD k 0) (ys.getD k 0) (carryAt do_ xs ys k)).2 ≤ 1) := ⟨rfl, HC.out _ _ _ hcar (HX.out.1 _ (getD_mem xs k (by rw [LL.out.2.1]; exact hkn))) (HX.out.2 _ (getD_mem ys k (by rw [LL.out.2.2]; exact hkn)))⟩
        have RS : Shut (RowAt (wr.setCell ⟨g0, k, none⟩ (.int .u64 ((do_ (xs.getD k 0) (ys.getD k 0) (carryAt do_ xs ys k)).1 : Nat))) t g0 n (U (fillOn os (limbAt do_ xs ys) (k + 1)))) := ⟨by
          have := r0.set_ k (.int .u64 ((do_ (xs.getD k 0) (ys.getD k 0) (carryAt do_ xs ys k)).1 : Nat))
          rwa [U_set] at this⟩
        have RX := Shut.mk (r1.far (p := ⟨g0, k, none⟩) D.out.1 (.int .u64 ((do_ (xs.getD k 0) (ys.getD k 0) (carryAt do_ xs ys k)).1 : Nat)))
        have RY := Shut.mk (r2.far (p := ⟨g0, k, none⟩) D.out.2.1 (.int .u64 ((do_ (xs.getD k 0) (ys.getD k 0) (carryAt do_ xs ys k)).1 : Nat)))
        have BB := Shut.mk (hb.setCell (p := ⟨g0, k, none⟩) D.out.2.2 (.int .u64 ((do_ (xs.getD k 0) (ys.getD k 0) (carryAt do_ xs ys k)).1 : Nat)))
        generalize (do_ (xs.getD k 0) (ys.getD k 0) (carryAt do_ xs ys k)).1 = r at *
        generalize (do_ (xs.getD k 0) (ys.getD k 0) (carryAt do_ xs ys k)).2 = o at *
        generalize xs.getD k 0 = x at *
        generalize ys.getD k 0 = y at *
        generalize carryAt do_ xs ys k = cc at *
        generalize (fillOn os (limbAt do_ xs ys) k).getD k 0 = v at *
        clear r0 r1 r2 hb hcar
        go_wp2_with fail
        go_region_with (go_at_call 36; refine (DO.out _).mono ?_; rintro e w1 ⟨rfl, rfl⟩)
        all_goals
          go_wp2_with fail
          go_roundw
          case rel => exact ⟨k + 1, by omega, by go_num, by rw [CN.out.1], by rw [CN.out.1]; exact CN.out.2, RS.out.drew, RX.out.drew, RY.out.drew, below_drewN BB.out 1⟩
          case measure => simp [intOf]; omega
      · obtain rfl : k = n := by omega
        have RR := Shut.mk r0
        have BB := Shut.mk hb
        obtain ⟨cc, hcc⟩ : ∃ cc, cc = carryAt do_ xs ys k := ⟨_, rfl⟩
        rw [← hcc]
        have HCC := Shut.mk hcc
        clear r0 r1 r2 hb hcar hkn hcc
        go_wp2_with fail
        go_ret
        exact ⟨by rw [← HCC.out]; exact congrArg (fun b => Ending.returned (.bool b)) (ne_zero_b cc), RR.out, BB.out⟩
  · go_enter Try.func34, Try.ntmps34
    go_wp2_with fail
    go_loopw [9, 13] (fun cv i wr => ∃ k : Nat, k ≤ n ∧ i = .int .i64 k ∧ cv = .int .u64 (carryAt do_ xs ys k : Nat) ∧ carryAt do_ xs ys k ≤ 1 ∧ RowAt wr t g0 n (U (fillOn os (limbAt do_ xs ys) k)) ∧ RowAt wr t g1 n (U xs) ∧ RowAt wr t g2 n (U ys) ∧ Below B w wr) (fun _ i _ => n - (intOf i).toNat)
    case atStart => exact ⟨0, by omega, rfl, rfl, Nat.zero_le _, R0.out, R1.out, R2.out, Below.refl _ _⟩
    case round =>
      obtain ⟨k, hk, rfl, rfl, hcar, r0, r1, r2, hb⟩ := hrel
      by_cases hkn : k < n
      · have hk2 : (k : Int) < (n : Int) := by omega
        have c0 := r0.u64 (k := k) (by rw [fillOn_len, LL.out.1]; exact hkn)
        have f0 := r0.frozen k
        have c1 := r1.u64 (k := k) (by rw [LL.out.2.1]; exact hkn)
        have c2 := r2.u64 (k := k) (by rw [LL.out.2.2]; exact hkn)
        have DO := Shut.mk (HDO.out (xs.getD k 0) (ys.getD k 0) (carryAt do_ xs ys k) hcar)
        have CN : Shut (carryAt do_ xs ys (k + 1) = (do_ (xs.getD k 0) (ys.getD k 0) (carryAt do_ xs ys k)).2 ∧ (do_ (xs.getD k 0) (ys.getD k 0) (carryAt do_ xs ys k)).2 ≤ 1) := ⟨rfl, HC.out _ _ _ hcar (HX.out.1 _ (getD_mem xs k (by rw [LL.out.2.1]; exact hkn))) (HX.out.2 _ (getD_mem ys k (by rw [LL.out.2.2]; exact hkn)))⟩
        have RS : Shut (RowAt (wr.setCell ⟨g0, k, none⟩ (.int .u64 ((do_ (xs.getD k 0) (ys.getD k 0) (carryAt do_ xs ys k)).1 : Nat))) t g0 n (U (fillOn os (limbAt do_ xs ys) (k + 1)))) := ⟨by
          have := r0.set_ k (.int .u64 ((do_ (xs.getD k 0) (ys.getD k 0) (carryAt do_ xs ys k)).1 : Nat))
          rwa [U_set] at this⟩
        have RX := Shut.mk (r1.far (p := ⟨g0, k, none⟩) D.out.1 (.int .u64 ((do_ (xs.getD k 0) (ys.getD k 0) (carryAt do_ xs ys k)).1 : Nat)))
        have RY := Shut.mk (r2.far (p := ⟨g0, k, none⟩) D.out.2.1 (.int .u64 ((do_ (xs.getD k 0) (ys.getD k 0) (carryAt do_ xs ys k)).1 : Nat)))
        have BB := Shut.mk (hb.setCell (p := ⟨g0, k, none⟩) D.out.2.2 (.int .u64 ((do_ (xs.getD k 0) (ys.getD k 0) (carryAt do_ xs ys k)).1 : Nat)))
        generalize (do_ (xs.getD k 0) (ys.getD k 0) (carryAt do_ xs ys k)).1 = r at *
        generalize (do_ (xs.getD k 0) (ys.getD k 0) (carryAt do_ xs ys k)).2 = o at *
        generalize xs.getD k 0 = x at *
        generalize ys.getD k 0 = y at *
        generalize carryAt do_ xs ys k = cc at *
        generalize (fillOn os (limbAt do_ xs ys) k).getD k 0 = v at *
        clear r0 r1 r2 hb hcar
        go_wp2_with fail
        go_region_with (go_at_call 35; refine (DO.out _).mono ?_; rintro e w1 ⟨rfl, rfl⟩)
        all_goals
          go_wp2_with fail
          go_roundw
          case rel => exact ⟨k + 1, by omega, by go_num, by rw [CN.out.1], by rw [CN.out.1]; exact CN.out.2, RS.out.drew, RX.out.drew, RY.out.drew, below_drewN BB.out 1⟩
          case measure => simp [intOf]; omega
      · obtain rfl : k = n := by omega
        have RR := Shut.mk r0
        have BB := Shut.mk hb
        obtain ⟨cc, hcc⟩ : ∃ cc, cc = carryAt do_ xs ys k := ⟨_, rfl⟩
        rw [← hcc]
        have HCC := Shut.mk hcc
        clear r0 r1 r2 hb hcar hkn hcc
        go_wp2_with fail
        go_ret
        exact ⟨by rw [← HCC.out]; exact congrArg (fun b => Ending.returned (.bool b)) (ne_zero_b cc), RR.out, BB.out⟩

end Go.Proofs.Ytdgklodhgbbdjaa
