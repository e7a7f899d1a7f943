/- Walk: product, Mul, by numbers. -/
import Derived.Test.YtdgklodhgbbdjaaWV
namespace Go.Proofs.Ytdgklodhgbbdjaa
set_option linter.unusedVariables false
set_option linter.unusedSimpArgs false
open Go Go.RowKit

theorem set_lt {os : List Nat} {j v : Nat} (h : ∀ x ∈ os, x < 18446744073709551616) (hv : v < 18446744073709551616) : ∀ x ∈ os.set j v, x < 18446744073709551616 := by
  intro x hx
  rcases List.mem_or_eq_of_mem_set hx with h1 | h1
  · exact h x h1
  · rw [h1]; exact hv

theorem set_get {os : List Nat} {j v : Nat} (hj : j < os.length) (t : Nat) : (os.set j v).getD t 0 = if t = j then v else os.getD t 0 := by
  rw [List.getD_eq_getElem?_getD, List.getElem?_set]
  by_cases e : j = t
  · subst e
    rw [if_pos rfl, if_pos hj, if_pos rfl]; rfl
  · rw [if_neg e, if_neg (fun h => e h.symm), ← List.getD_eq_getElem?_getD]

/-- One limb set otherwise. -/
theorem vn_set {os : List Nat} {j v : Nat} (h : ∀ x ∈ os, x < 18446744073709551616) (hv : v < 18446744073709551616) (hj : j < os.length) :
    ∀ M, (M ≤ j → vn (os.set j v) M = vn os M) ∧ (j < M → vn (os.set j v) M + 2 ^ (64 * j) * os.getD j 0 = vn os M + 2 ^ (64 * j) * v)
  | 0 => ⟨fun _ => rfl, fun h => by omega⟩
  | M + 1 => by
    obtain ⟨h1, h2⟩ := vn_set h hv hj M
    rw [vn_succ _ (getD_lt (set_lt h hv)), vn_succ _ (getD_lt h), set_get hj]
    refine ⟨fun hM => ?_, fun hM => ?_⟩
    · rw [h1 (by omega), if_neg (by omega)]
    · by_cases e : M = j
      · subst e
        rw [if_pos rfl, h1 (Nat.le_refl _)]
        omega
      · have := h2 (by omega)
        rw [if_neg e]
        omega

/-- What the rounds hold. -/
def ProdI (xs ys os : List Nat) (n m i : Nat) : Prop := os.length = n + m ∧ (∀ x ∈ os, x < 18446744073709551616) ∧ vn os (i + m) = vn xs i * vn ys m
def InnI (xs ys os : List Nat) (n m i x k c : Nat) : Prop := os.length = n + m ∧ (∀ y ∈ os, y < 18446744073709551616) ∧ c < 18446744073709551616 ∧ vn os (i + m) + 2 ^ (64 * (i + k)) * c = vn xs i * vn ys m + 2 ^ (64 * i) * x * vn ys k

theorem ProdI.start {xs ys os : List Nat} {n m i : Nat} (x : Nat) (h : ProdI xs ys os n m i) : InnI xs ys os n m i x 0 0 :=
  ⟨h.1, h.2.1, by decide, by rw [h.2.2]; simp [vn, natOf]⟩

theorem inn_arith (P Pj v v' y o o' B c c' A Px V xk : Nat) (h1 : v' + Pj * o = v + Pj * o') (h2 : o' + B * c' = xk * y + c + o) (h3 : v + Pj * c = A + Px * V) (h4 : Pj * xk = Px * P) : v' + Pj * B * c' = A + Px * (V + P * y) := by
  have e : Pj * (o' + B * c') = Pj * (xk * y + c + o) := by rw [h2]
  rw [Nat.mul_add, Nat.mul_add, Nat.mul_add, ← Nat.mul_assoc, ← Nat.mul_assoc, h4] at e
  rw [Nat.mul_add, ← Nat.mul_assoc]
  omega

theorem InnI.next {xs ys os : List Nat} {n m i x k c o' c' : Nat} (h : InnI xs ys os n m i x k c) (hy : ∀ y ∈ ys, y < 18446744073709551616) (hk : k < m) (hi : i < n) (ho : o' < 18446744073709551616) (hc : c' < 18446744073709551616) (he : o' + 18446744073709551616 * c' = x * ys.getD k 0 + c + os.getD (i + k) 0) :
    InnI xs ys (os.set (i + k) o') n m i x (k + 1) c' := by
  obtain ⟨h1, h2, h3, h4⟩ := h
  refine ⟨by rw [List.length_set, h1], set_lt h2 ho, hc, ?_⟩
  have hs := (vn_set (j := i + k) h2 ho (by omega) (i + m)).2 (by omega)
  rw [vn_succ ys (getD_lt hy), show 64 * (i + (k + 1)) = 64 * (i + k) + 64 by omega, Nat.pow_add, show (2 : Nat) ^ 64 = 18446744073709551616 by decide]
  refine inn_arith (2 ^ (64 * k)) (2 ^ (64 * (i + k))) (vn os (i + m)) _ _ _ _ _ _ _ _ _ _ x hs he h4 ?_
  rw [Nat.mul_add 64, Nat.pow_add, Nat.mul_assoc, Nat.mul_assoc, Nat.mul_comm (2 ^ (64 * k)) x]

theorem InnI.done {xs ys os : List Nat} {n m i x c : Nat} (h : InnI xs ys os n m i x m c) (hx : ∀ y ∈ xs, y < 18446744073709551616) (hi : i < n) (e : xs.getD i 0 = x) : ProdI xs ys (os.set (i + m) c) n m (i + 1) := by
  obtain ⟨h1, h2, h3, h4⟩ := h
  refine ⟨by rw [List.length_set, h1], set_lt h2 h3, ?_⟩
  rw [show i + 1 + m = (i + m) + 1 by omega, vn_succ _ (getD_lt (set_lt h2 h3)), set_get (by omega), if_pos rfl, (vn_set (j := i + m) h2 h3 (by omega) (i + m)).1 (Nat.le_refl _), h4, vn_succ xs (getD_lt hx), e, Nat.add_mul]

/-- The arithmetic of one limb. -/
theorem limb_step (x y c o p hi lo lo1 c1 hi1 o' c2 c' : Nat) (hx : x < 18446744073709551616) (hy : y < 18446744073709551616) (hc : c < 18446744073709551616) (ho : o < 18446744073709551616) (hp : p = x * y)
    (e1 : lo = p % 18446744073709551616) (e2 : hi = p / 18446744073709551616) (e3 : lo1 = (lo + c) % 18446744073709551616) (e4 : c1 = (lo + c) / 18446744073709551616) (e5 : hi1 = hi + c1)
    (e6 : o' = (o + lo1) % 18446744073709551616) (e7 : c2 = (o + lo1) / 18446744073709551616) (e8 : c' = hi1 + c2) : hi1 < 18446744073709551616 ∧ c' < 18446744073709551616 ∧ o' < 18446744073709551616 ∧ o' + 18446744073709551616 * c' = p + c + o := by
  have hb : p ≤ 18446744073709551615 * 18446744073709551615 := by rw [hp]; exact Nat.mul_le_mul (by omega) (by omega)
  have h1 : o' + 18446744073709551616 * c' = p + c + o := by omega
  refine ⟨by omega, by omega, by omega, h1⟩

set_option maxRecDepth 100000 in
set_option maxHeartbeats 2000000 in
theorem product_any (t0 t1 g0 g1 g2 n m N B : Nat) (os xs ys : List Nat) (hN : N = n + m) (w : World) (h0 : RowAt w t0 g0 N (U os)) (h1 : RowAt w t1 g1 n (U xs)) (h2 : RowAt w t1 g2 m (U ys)) (l0 : os.length = N) (l1 : xs.length = n) (l2 : ys.length = m) (hn : n < 1000) (hm : m < 1000)
    (d1 : g1 ≠ g0) (d2 : g2 ≠ g0) (hB : B ≤ g0) (hx : ∀ x ∈ xs, x < 18446744073709551616) (hy : ∀ x ∈ ys, x < 18446744073709551616) (hz : ProdI xs ys os n m 0) :
    Calls Try.prog 39 #[.slice (some ⟨g0, 0, none⟩) N N, .slice (some ⟨g1, 0, none⟩) n n, .slice (some ⟨g2, 0, none⟩) m m] w fun e w' =>
      e = .returned (.tuple #[]) ∧ ∃ zs, ProdI xs ys zs n m n ∧ RowAt w' t0 g0 N (U zs) ∧ Below B w w' := by
  have R0 := Shut.mk h0
  have R1 := Shut.mk h1
  have R2 := Shut.mk h2
  have D := Shut.mk (And.intro d1 (And.intro d2 hB))
  have LL := Shut.mk (And.intro l0 (And.intro l1 l2))
  have HX := Shut.mk (And.intro hx hy)
  have HZ := Shut.mk hz
  have HN := Shut.mk hN
  clear h0 h1 h2 d1 d2 hB l0 l1 l2 hx hy hz
  go_enter Try.func39, Try.ntmps39
  go_wp2_with fail
  go_loopw [16] (fun ii wr => ∃ (i : Nat) (zs : List Nat), i ≤ n ∧ ii = .int .i64 i ∧ ProdI xs ys zs n m i ∧ RowAt wr t0 g0 N (U zs) ∧ RowAt wr t1 g1 n (U xs) ∧ RowAt wr t1 g2 m (U ys) ∧ Below B w wr) (fun ii _ => n - (intOf ii).toNat)
  case atStart => exact ⟨0, os, by omega, rfl, HZ.out, R0.out, R1.out, R2.out, Below.refl _ _⟩
  case round =>
    obtain ⟨i, zs, hi, rfl, hP, r0, r1, r2, hb⟩ := hrel
    by_cases hin : i < n
    · have hin2 : (i : Int) < (n : Int) := by omega
      have cx := r1.u64 (k := i) (by rw [LL.out.2.1]; exact hin)
      have HXI : Shut (xs.getD i 0 < 18446744073709551616) := ⟨HX.out.1 _ (getD_mem xs i (by rw [LL.out.2.1]; exact hin))⟩
      have EX : Shut (∃ x, xs.getD i 0 = x) := ⟨_, rfl⟩
      have P0 := Shut.mk (hP.start (xs.getD i 0))
      have EE : Shut (∀ ws c, InnI xs ys ws n m i (xs.getD i 0) m c → ProdI xs ys (ws.set (i + m) c) n m (i + 1)) := ⟨fun ws c hh => hh.done HX.out.1 hin rfl⟩
      have r0' := Shut.mk r0
      have r1' := Shut.mk r1
      have r2' := Shut.mk r2
      have hb' := Shut.mk hb
      generalize xs.getD i 0 = x at *
      clear r0 r1 r2 hb hP EX
      go_wp2_with fail
      go_loopw [8, 23] (fun cc kk wr' => ∃ (k c : Nat) (ws : List Nat), k ≤ m ∧ kk = .int .i64 k ∧ cc = .int .u64 c ∧ InnI xs ys ws n m i x k c ∧ RowAt wr' t0 g0 N (U ws) ∧ RowAt wr' t1 g1 n (U xs) ∧ RowAt wr' t1 g2 m (U ys) ∧ Below B w wr') (fun _ kk _ => m - (intOf kk).toNat)
      case atStart => exact ⟨0, 0, zs, by omega, rfl, rfl, P0.out, r0'.out, r1'.out, r2'.out, hb'.out⟩
      case round =>
        obtain ⟨k, c, ws, hk, rfl, rfl, hI, r0, r1, r2, hb⟩ := hrel
        by_cases hkm : k < m
        · have hkm2 : (k : Int) < (m : Int) := by omega
          obtain ⟨j, hj⟩ : ∃ j, j = i + k := ⟨_, rfl⟩
          have hj1 : (i : Int) + (k : Int) = (j : Int) := by omega
          have hj2 : (j : Int) < (N : Int) := by omega
          have cy := r2.u64 (k := k) (by rw [LL.out.2.2]; exact hkm)
          have co := r0.u64 (k := j) (by have := hI.1; omega)
          have fo := r0.frozen j
          have HYK := HX.out.2 _ (getD_mem ys k (by rw [LL.out.2.2]; exact hkm))
          have HOJ := hI.2.1 _ (getD_mem ws j (by have := hI.1; omega))
          have HCC := hI.2.2.1
          have NX : Shut (∀ o' c', o' < 18446744073709551616 → c' < 18446744073709551616 → o' + 18446744073709551616 * c' = x * ys.getD k 0 + c + ws.getD j 0 → InnI xs ys (ws.set j o') n m i x (k + 1) c') := ⟨fun o' c' a1 a2 a3 => by
            rw [hj] at a3 ⊢
            exact hI.next HX.out.2 hkm hin a1 a2 a3⟩
          have R0' : Shut (∀ o' : Nat, RowAt (wr.setCell ⟨g0, j, none⟩ (.int .u64 (o' : Nat))) t0 g0 N (U (ws.set j o'))) := ⟨fun o' => by
            have := r0.set_ j (.int .u64 (o' : Nat))
            rwa [U_set] at this⟩
          have R1' := Shut.mk (fun o' : Nat => r1.far (p := ⟨g0, j, none⟩) D.out.1 (.int .u64 (o' : Nat)))
          have R2' := Shut.mk (fun o' : Nat => r2.far (p := ⟨g0, j, none⟩) D.out.2.1 (.int .u64 (o' : Nat)))
          have BB := Shut.mk (fun o' : Nat => hb.setCell (p := ⟨g0, j, none⟩) D.out.2.2 (.int .u64 (o' : Nat)))
          generalize ys.getD k 0 = y at *
          generalize ws.getD j 0 = o at *
          have M := Shut.mk (fun (W : World) => Try.bits_Mul64 x y HXI.out HYK W)
          obtain ⟨lo, e1⟩ : ∃ lo, lo = x * y % 18446744073709551616 := ⟨_, rfl⟩
          obtain ⟨hh, e2⟩ : ∃ hh, hh = x * y / 18446744073709551616 := ⟨_, rfl⟩
          obtain ⟨lo1, e3⟩ : ∃ t, t = (lo + c) % 18446744073709551616 := ⟨_, rfl⟩
          obtain ⟨c1, e4⟩ : ∃ t, t = (lo + c) / 18446744073709551616 := ⟨_, rfl⟩
          obtain ⟨h1, e5⟩ : ∃ t, t = hh + c1 := ⟨_, rfl⟩
          obtain ⟨o', e6⟩ : ∃ t, t = (o + lo1) % 18446744073709551616 := ⟨_, rfl⟩
          obtain ⟨c2, e7⟩ : ∃ t, t = (o + lo1) / 18446744073709551616 := ⟨_, rfl⟩
          obtain ⟨c', e8⟩ : ∃ t, t = h1 + c2 := ⟨_, rfl⟩
          obtain ⟨b1, b2, b3, b4⟩ := limb_step x y c o _ hh lo lo1 c1 h1 o' c2 c' HXI.out HYK HCC HOJ rfl e1 e2 e3 e4 e5 e6 e7 e8
          rw [← e1, ← e2] at M
          have ADD1 : ∀ W : World, (callFunc 42 #[.int .u64 lo, .int .u64 c, .int .u64 0]).run Try.prog W = .ok (.value (.tuple #[.int .u64 (lo1 : Nat), .int .u64 (c1 : Nat)])) W := fun W => by
            have := add64_run lo c 0 (by decide) W
            rw [Nat.add_zero, ← e3, ← e4] at this
            exact this
          have ADD2 : ∀ W : World, (callFunc 42 #[.int .u64 o, .int .u64 lo1, .int .u64 0]).run Try.prog W = .ok (.value (.tuple #[.int .u64 (o' : Nat), .int .u64 (c2 : Nat)])) W := fun W => by
            have := add64_run o lo1 0 (by decide) W
            rw [Nat.add_zero, ← e6, ← e7] at this
            exact this
          have W1 := wrap_fits hh c1 h1 e5.symm b1
          have W2 := wrap_fits h1 c2 c' e8.symm b2
          have NX' := Shut.mk (NX.out o' c' b3 b2 b4)
          have hk3 : k < m := hkm
          clear hI r0 r1 r2 hb NX e1 e2 e3 e4 e5 e6 e7 e8 b1 b2 b3 b4 HYK HOJ HCC hj
          go_wp2_with fail
          refine (M.out _).mono ?_
          rintro e w1 ⟨rfl, rfl⟩
          go_wp2_with (first | simp only [ADD1] | simp only [ADD2])
          go_roundw
          case rel => exact ⟨k + 1, c', _, by omega, by go_num, rfl, NX'.out, R0'.out o', R1'.out o', R2'.out o', BB.out o'⟩
          case measure => simp [intOf]; omega
        · obtain rfl : k = m := by omega
          obtain ⟨j, hj⟩ : ∃ j, j = i + k := ⟨_, rfl⟩
          have hj1 : (i : Int) + (k : Int) = (j : Int) := by omega
          have hj2 : (j : Int) < (N : Int) := by omega
          have co := r0.u64 (k := j) (by have := hI.1; omega)
          have fo := r0.frozen j
          have R0' : Shut (RowAt (wr.setCell ⟨g0, j, none⟩ (.int .u64 (c : Nat))) t0 g0 N (U (ws.set j c))) := ⟨by
            have := r0.set_ j (.int .u64 (c : Nat))
            rwa [U_set] at this⟩
          have R1' := Shut.mk (r1.far (p := ⟨g0, j, none⟩) D.out.1 (.int .u64 (c : Nat)))
          have R2' := Shut.mk (r2.far (p := ⟨g0, j, none⟩) D.out.2.1 (.int .u64 (c : Nat)))
          have BB := Shut.mk (hb.setCell (p := ⟨g0, j, none⟩) D.out.2.2 (.int .u64 (c : Nat)))
          have FI : Shut (ProdI xs ys (ws.set j c) n k (i + 1)) := ⟨by rw [hj]; exact EE.out ws c hI⟩
          generalize ws.getD j 0 = o at *
          clear hI r0 r1 r2 hb hj hkm
          go_wp2_with fail
          go_roundw
          case rel => exact ⟨i + 1, _, by omega, by go_num, FI.out, R0'.out, R1'.out, R2'.out, BB.out⟩
          case measure => simp [intOf]; omega
    · obtain rfl : i = n := by omega
      have F := Shut.mk (And.intro hP (And.intro r0 hb))
      clear hP r0 r1 r2 hb hin
      go_wp2_with fail
      go_end0
      exact ⟨rfl, zs, F.out.1, F.out.2.1, F.out.2.2⟩

-- MUL
set_option maxRecDepth 100000 in
set_option maxHeartbeats 2000000 in
theorem mul_any (x0 x1 x2 x3 y0 y1 y2 y3 : Nat) (w : World) (hx : ∀ x ∈ [x0, x1, x2, x3], x < 18446744073709551616) (hy : ∀ x ∈ [y0, y1, y2, y3], x < 18446744073709551616) :
    Calls Try.prog 25 #[.agg #[.int .u64 x0, .int .u64 x1, .int .u64 x2, .int .u64 x3], .agg #[.int .u64 y0, .int .u64 y1, .int .u64 y2, .int .u64 y3]] w fun e w' => ∃ p0 p1 p2 p3 p4 p5 p6 p7 : Nat, e = .returned (.agg #[.int .u64 p0, .int .u64 p1, .int .u64 p2, .int .u64 p3, .int .u64 p4, .int .u64 p5, .int .u64 p6, .int .u64 p7]) ∧ (∀ x ∈ [p0, p1, p2, p3, p4, p5, p6, p7], x < 18446744073709551616) ∧ vn [p0, p1, p2, p3, p4, p5, p6, p7] 8 = vn [x0, x1, x2, x3] 4 * vn [y0, y1, y2, y3] 4 ∧ Below w.heap.size w w' := by
  have RX' := ((RowAt.arr w 24 [x0, x1, x2, x3] (show 4 < 1000000 by decide)).alloc (.cells #[.int .u64 y0, .int .u64 y1, .int .u64 y2, .int .u64 y3] 24)).alloc (.cells #[.int .u64 0, .int .u64 0, .int .u64 0, .int .u64 0, .int .u64 0, .int .u64 0, .int .u64 0, .int .u64 0] 37)
  have RY' := (RowAt.arr (w.alloc (.cells #[.int .u64 x0, .int .u64 x1, .int .u64 x2, .int .u64 x3] 24)) 24 [y0, y1, y2, y3] (show 4 < 1000000 by decide)).alloc (.cells #[.int .u64 0, .int .u64 0, .int .u64 0, .int .u64 0, .int .u64 0, .int .u64 0, .int .u64 0, .int .u64 0] 37)
  have RZ' := RowAt.arr ((w.alloc (.cells #[.int .u64 x0, .int .u64 x1, .int .u64 x2, .int .u64 x3] 24)).alloc (.cells #[.int .u64 y0, .int .u64 y1, .int .u64 y2, .int .u64 y3] 24)) 37 [0, 0, 0, 0, 0, 0, 0, 0] (by decide)
  simp only [World.size_alloc] at RX' RY' RZ'
  have RX : Shut (RowAt (((w.alloc (.cells #[.int .u64 x0, .int .u64 x1, .int .u64 x2, .int .u64 x3] 24)).alloc (.cells #[.int .u64 y0, .int .u64 y1, .int .u64 y2, .int .u64 y3] 24)).alloc (.cells #[.int .u64 0, .int .u64 0, .int .u64 0, .int .u64 0, .int .u64 0, .int .u64 0, .int .u64 0, .int .u64 0] 37)) 24 w.heap.size 4 (U [x0, x1, x2, x3])) := ⟨RX'⟩
  have RY : Shut (RowAt (((w.alloc (.cells #[.int .u64 x0, .int .u64 x1, .int .u64 x2, .int .u64 x3] 24)).alloc (.cells #[.int .u64 y0, .int .u64 y1, .int .u64 y2, .int .u64 y3] 24)).alloc (.cells #[.int .u64 0, .int .u64 0, .int .u64 0, .int .u64 0, .int .u64 0, .int .u64 0, .int .u64 0, .int .u64 0] 37)) 24 (w.heap.size + 1) 4 (U [y0, y1, y2, y3])) := ⟨RY'⟩
  have RZ : Shut (RowAt (((w.alloc (.cells #[.int .u64 x0, .int .u64 x1, .int .u64 x2, .int .u64 x3] 24)).alloc (.cells #[.int .u64 y0, .int .u64 y1, .int .u64 y2, .int .u64 y3] 24)).alloc (.cells #[.int .u64 0, .int .u64 0, .int .u64 0, .int .u64 0, .int .u64 0, .int .u64 0, .int .u64 0, .int .u64 0] 37)) 37 (w.heap.size + 1 + 1) 8 (U [0, 0, 0, 0, 0, 0, 0, 0])) := ⟨RZ'⟩
  have B0 := Shut.mk ((((Below.refl w.heap.size w).alloc (Nat.le_refl _) (.cells #[.int .u64 x0, .int .u64 x1, .int .u64 x2, .int .u64 x3] 24)).alloc (by simp) (.cells #[.int .u64 y0, .int .u64 y1, .int .u64 y2, .int .u64 y3] 24)).alloc (by simp; omega) (.cells #[.int .u64 0, .int .u64 0, .int .u64 0, .int .u64 0, .int .u64 0, .int .u64 0, .int .u64 0, .int .u64 0] 37))
  have P0 : ProdI [x0, x1, x2, x3] [y0, y1, y2, y3] [0, 0, 0, 0, 0, 0, 0, 0] 4 4 0 := ⟨rfl, by intro x hx; simp at hx; omega, by
    have : vn [0, 0, 0, 0, 0, 0, 0, 0] (0 + 4) = 0 := natOf_none _ _ (fun i hi => by
      unfold bitF
      have hq : i / 64 < 8 := by omega
      have : ([0, 0, 0, 0, 0, 0, 0, 0] : List Nat).getD (i / 64) 0 = 0 := by
        generalize i / 64 = q at hq
        match q, hq with
        | 0, _ => rfl
        | 1, _ => rfl
        | 2, _ => rfl
        | 3, _ => rfl
        | 4, _ => rfl
        | 5, _ => rfl
        | 6, _ => rfl
        | 7, _ => rfl
      rw [this, Nat.zero_testBit])
    rw [this]
    simp [vn, natOf]⟩
  have FD := Shut.mk (product_any 37 24 (w.heap.size + 1 + 1) w.heap.size (w.heap.size + 1) 4 4 8 w.heap.size [0, 0, 0, 0, 0, 0, 0, 0] [x0, x1, x2, x3] [y0, y1, y2, y3] rfl (((w.alloc (.cells #[.int .u64 x0, .int .u64 x1, .int .u64 x2, .int .u64 x3] 24)).alloc (.cells #[.int .u64 y0, .int .u64 y1, .int .u64 y2, .int .u64 y3] 24)).alloc (.cells #[.int .u64 0, .int .u64 0, .int .u64 0, .int .u64 0, .int .u64 0, .int .u64 0, .int .u64 0, .int .u64 0] 37)).drew RZ.out.drew RX.out.drew RY.out.drew rfl rfl rfl (by decide) (by decide) (by omega) (by omega) (by omega) hx hy P0)
  clear RX' RY' RZ' hx hy P0
  go_enter Try.func25, Try.ntmps25
  go_wp2_with fail
  go_region_with (go_at_call 39; refine (FD.out).mono ?_; rintro e w1 ⟨rfl, zs, hP, hr1, hb1⟩)
  have BB := Shut.mk (B0.out.trans ((below_drewN (Below.refl w.heap.size (((w.alloc (.cells #[.int .u64 x0, .int .u64 x1, .int .u64 x2, .int .u64 x3] 24)).alloc (.cells #[.int .u64 y0, .int .u64 y1, .int .u64 y2, .int .u64 y3] 24)).alloc (.cells #[.int .u64 0, .int .u64 0, .int .u64 0, .int .u64 0, .int .u64 0, .int .u64 0, .int .u64 0, .int .u64 0] 37))) 1).trans hb1))
  obtain ⟨p0, p1, p2, p3, p4, p5, p6, p7, rfl⟩ := list8 hP.1
  have HP := Shut.mk hP
  obtain ⟨⟨a0, a1, a2, a3, a4, a5, a6, a7⟩, z0, z1, z2, z3, z4, z5, z6, z7⟩ := hr1.eight
  clear hr1 hb1 hP
  go_wp2_with fail
  refine bodyPost_ret (v := .agg #[.int .u64 p0, .int .u64 p1, .int .u64 p2, .int .u64 p3, .int .u64 p4, .int .u64 p5, .int .u64 p6, .int .u64 p7]) (by simp [results, Try.results25, go_sem, a0, a1, a2, a3, a4, a5, a6, a7]) rfl ⟨p0, p1, p2, p3, p4, p5, p6, p7, rfl, HP.out.2.1, HP.out.2.2, ?_⟩
  exact ((((((((BB.out.setCell (p := ⟨w.heap.size + 1 + 1, 0, none⟩) (by simp; omega) _).setCell (p := ⟨w.heap.size + 1 + 1, 1, none⟩) (by simp; omega) _).setCell (p := ⟨w.heap.size + 1 + 1, 2, none⟩) (by simp; omega) _).setCell (p := ⟨w.heap.size + 1 + 1, 3, none⟩) (by simp; omega) _).setCell (p := ⟨w.heap.size + 1 + 1, 4, none⟩) (by simp; omega) _).setCell (p := ⟨w.heap.size + 1 + 1, 5, none⟩) (by simp; omega) _).setCell (p := ⟨w.heap.size + 1 + 1, 6, none⟩) (by simp; omega) _).setCell (p := ⟨w.heap.size + 1 + 1, 7, none⟩) (by simp; omega) _)

end Go.Proofs.Ytdgklodhgbbdjaa
