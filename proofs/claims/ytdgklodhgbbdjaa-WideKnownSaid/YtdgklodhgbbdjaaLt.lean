/- Later worlds; bits of the law's numbers. -/
import Derived.Test.YtdgklodhgbbdjaaXA
import Derived.Test.YtdgklodhgbbdjaaWZ
import Derived.Test.YtdgklodhgbbdjaaWK
import Derived.Test.YtdgklodhgbbdjaaBel
namespace Go.Proofs.Ytdgklodhgbbdjaa
set_option linter.unusedVariables false
set_option linter.unusedSimpArgs false
open Go Go.RowKit

theorem Later.row {W W' : World} {t : TypeId} {v : Value} {xs : List Value} (h : Row W t v xs) (hl : Later W W') : Row W' t v xs := h.below hl
theorem Later.at_ {W W' : World} {t g c : Nat} {xs : List Value} (h : RowAt W t g c xs) (hl : Later W W') : RowAt W' t g c xs := h.below hl
theorem Later.alloc (W : World) (o : Obj) : Later W (W.alloc o) := (Below.refl _ _).alloc (Nat.le_refl _) o
theorem Later.drew (W : World) : Later W W.drew := below_drewN (Below.refl _ _) 1
theorem Later.cell {W W' : World} (hl : Later W W') {g k : Nat} {v : Value} (hg : g < W.heap.size) (h : W.cell? ⟨g, k, none⟩ = some v) : W'.cell? ⟨g, k, none⟩ = some v := (Below.cell (p := ⟨g, k, none⟩) hl hg).trans h

theorem u64_nat' {n : Int} (h : (Lit.int .u64 n).wf = true) : ∃ x : Nat, n = (x : Int) ∧ x < 18446744073709551616 := by
  have := bounds_u64 h
  exact ⟨n.toNat, by omega, by omega⟩

theorem Bin.later {W W' : World} {V M n c : Nat} {bs : List Bool} {A : Option Addr} (h : Bin W V M n bs A c) (hl : Later W W') : Bin W' V M n bs A c := ⟨h.1, h.2.1, h.2.2.1, hl.row h.2.2.2⟩

/-- Bits of a number, wherever they lie. -/
def IsNum (V M : Nat) (v : Value) (W : World) : Prop := ∃ bs A n c, v = .slice A n c ∧ Bin W V M n bs A c

/-- Two rows of bits, that are there. -/
def TwoAt (W0 : World) (F G : Nat → Bool) (n : Nat) (v v' : Value) (W : World) : Prop :=
  ∃ g c g' c', v = .slice (some ⟨g, 0, none⟩) n c ∧ v' = .slice (some ⟨g', 0, none⟩) n c' ∧ RowAt W 4 g c ((Bf F n).map Value.bool) ∧ RowAt W 4 g' c' ((Bf G n).map Value.bool) ∧ n ≤ c ∧ n ≤ c' ∧ Later W0 W

theorem Row.bits_at {W : World} {A : Option Addr} {n c : Nat} {F : Nat → Bool} (h : Row W 4 (.slice A n c) ((Bf F n).map Value.bool)) (h0 : 0 < n) : ∃ g, A = some ⟨g, 0, none⟩ ∧ RowAt W 4 g c ((Bf F n).map Value.bool) ∧ n ≤ c := by
  obtain ⟨g, c', e, hg⟩ := h.there (by simp [Bf_len]; omega)
  injection e with e1 e2 e3
  subst e3
  have := hg.cap.1
  rw [List.length_map, Bf_len] at this
  exact ⟨g, e1, hg, this⟩

theorem TwoAt.of_rows {W0 W : World} {F G : Nat → Bool} {n c c' : Nat} {A A' : Option Addr} (h0 : 0 < n) (h : Row W 4 (.slice A n c) ((Bf F n).map Value.bool)) (h' : Row W 4 (.slice A' n c') ((Bf G n).map Value.bool)) (hl : Later W0 W) : TwoAt W0 F G n (.slice A n c) (.slice A' n c') W := by
  obtain ⟨g, rfl, h1, h2⟩ := h.bits_at h0
  obtain ⟨g', rfl, h3, h4⟩ := h'.bits_at h0
  exact ⟨g, c, g', c', rfl, rfl, h1, h3, h2, h4, hl⟩

theorem Bf_take (f : Nat → Bool) (m n : Nat) (h : n ≤ m) : (Bf f m).take n = Bf f n := by
  unfold Bf
  rw [← List.map_take, List.take_range, Nat.min_eq_left h]

theorem RowAt.bits {W : World} {g c m : Nat} {f : Nat → Bool} (h : RowAt W 4 g c ((Bf f m).map Value.bool)) (n : Nat) (hn : n ≤ m) : Row W 4 (.slice (some ⟨g, 0, none⟩) n c) ((Bf f n).map Value.bool) := by
  obtain ⟨cur, h1, h2, h3, h4, h5⟩ := h
  have hl : ((Bf f m).map Value.bool).length = m := by simp [Bf_len]
  have hl2 : ((Bf f n).map Value.bool).length = n := by simp [Bf_len]
  have hr : RowAt W 4 g c ((Bf f n).map Value.bool) := ⟨cur, h1, by rw [hl2]; rw [hl] at h2; omega, h3, h4, by
    rw [hl2, ← Bf_take f m n hn, List.map_take, ← h5, hl, List.take_take, Nat.min_eq_left hn]⟩
  have := hr.row
  rwa [hl2] at this

theorem is_exact (t g n : Nat) (ns : List Nat) (A : Option Addr) (c' m M V : Nat) (bs : List Bool) (hn : n < 1000) (hM : M < 100000) (w : World) (hr : RowAt w t g n (U ns)) (hl : ns.length = n) (hu : ∀ x ∈ ns, x < 18446744073709551616) (h : Bin w V M m bs A c')
    (hv : vn ns n = V) : Calls Try.prog 10 #[.slice (some ⟨g, 0, none⟩) n n, .bool false, .slice A m c'] w fun e w' => e = .returned (.bool true) ∧ Later w w' := by
  have hlt := vn_lt ns n
  rw [hv] at hlt
  exact is_bin t g n n ns false A c' m M V bs hn hM w hr hl hu h (by rw [hv, Nat.mod_eq_of_lt hlt]) (by rw [decide_eq_false (by omega)])

theorem rmul_num (g g' c c' m k : Nat) (F G : Nat → Bool) (hk : k ≤ m) (hm : m < 10000) (V : Nat) (hV : V = natOf F k * natOf G k) (w : World) (h : RowAt w 4 g c ((Bf F m).map Value.bool)) (h' : RowAt w 4 g' c' ((Bf G m).map Value.bool)) :
    Calls Try.prog 27 #[.slice (some ⟨g, 0, none⟩) k c, .slice (some ⟨g', 0, none⟩) k c'] w fun e w' => ∃ v, e = .returned v ∧ Later w w' ∧ IsNum V (k + k + k) v w' :=
  (rmul_any _ _ c c' k k F G (by omega) (by omega) w (h.bits k hk) (h'.bits k hk)).mono fun e w' hh => by
    obtain ⟨bs, A, c, e1, h1, h2, h3⟩ := hh
    exact ⟨_, e1, h1.2.2, bs, A, bs.length, c, rfl, rfl, h3, by rw [hV]; exact h2, h1.1⟩

/-- Quotient and rest, as bits. -/
def QR (Q R M : Nat) (v : Value) (W : World) : Prop := ∃ q r, v = .tuple #[q, r] ∧ IsNum Q M q W ∧ IsNum R M r W

theorem rdiv_num (g g' c c' m k k' : Nat) (F G : Nat → Bool) (hk : k ≤ m) (hk' : k' ≤ m) (hm : m < 10000) (h0 : 0 < k') (Q R : Nat) (hp : 0 < natOf G k') (hQ : Q = natOf F k / natOf G k') (hR : R = natOf F k % natOf G k') (w : World) (h : RowAt w 4 g c ((Bf F m).map Value.bool)) (h' : RowAt w 4 g' c' ((Bf G m).map Value.bool)) :
    Calls Try.prog 30 #[.slice (some ⟨g, 0, none⟩) k c, .slice (some ⟨g', 0, none⟩) k' c'] w fun e w' => ∃ v, e = .returned v ∧ Later w w' ∧ QR Q R (k + k') v w' :=
  (rdiv_any _ _ c c' k k' _ F G (by omega) (by omega) h0 rfl hp w (h.bits k hk) (h'.bits k' hk')).mono fun e w' hh => by
    obtain ⟨qs, rb, A, A', n, n', c1, c1', e1, l1, l2, l3, l4, r1, r2, v1, v2, hb⟩ := hh
    exact ⟨_, e1, hb, _, _, rfl, ⟨qs, A, n, c1, rfl, l1, l3, by rw [hQ]; exact v1, r1⟩, ⟨rb, A', n', c1', rfl, l2, l4, by rw [hR]; exact v2, r2⟩⟩

theorem vn_one (x0 : Nat) (xs : List Nat) (h : ∀ x ∈ x0 :: xs, x < 18446744073709551616) : vn (x0 :: xs) 1 = x0 := by
  rw [vn_succ _ (getD_lt h) 0]
  show 0 + 2 ^ 0 * x0 = x0
  rw [Nat.pow_zero]; omega

theorem vn_two (x0 x1 : Nat) (xs : List Nat) (h : ∀ x ∈ x0 :: x1 :: xs, x < 18446744073709551616) : vn (x0 :: x1 :: xs) 2 = x0 + 18446744073709551616 * x1 := by
  rw [vn_succ _ (getD_lt h) 1, vn_one x0 _ h]
  rfl

/-- The two words of a product. -/
theorem mul_words (a b : Nat) (ha : a < 18446744073709551616) (hb : b < 18446744073709551616) : (∀ x ∈ [a * b % 18446744073709551616, a * b / 18446744073709551616], x < 18446744073709551616) ∧ vn [a * b % 18446744073709551616, a * b / 18446744073709551616] 2 = a * b := by
  have h1 : ∀ x ∈ [a * b % 18446744073709551616, a * b / 18446744073709551616], x < 18446744073709551616 := by
    have hp : a * b ≤ 18446744073709551615 * 18446744073709551615 := Nat.mul_le_mul (by omega) (by omega)
    intro x hx
    simp only [List.mem_cons, List.not_mem_nil, or_false] at hx
    rcases hx with rfl | rfl <;> omega
  refine ⟨h1, ?_⟩
  rw [vn_two _ _ [] h1]
  omega

/-- The words of a quotient, and the rest. -/
theorem div_words (a0 a1 y : Nat) (h0 : 0 < y) (hy : y < 18446744073709551616) (ha : a0 < 18446744073709551616) (ha1 : a1 < 18446744073709551616) :
    (∀ x ∈ [(a1 % y * 18446744073709551616 + a0) / y, a1 / y], x < 18446744073709551616) ∧ vn [(a1 % y * 18446744073709551616 + a0) / y, a1 / y] 2 = (a0 + 18446744073709551616 * a1) / y ∧ (a1 % y * 18446744073709551616 + a0) % y = (a0 + 18446744073709551616 * a1) % y := by
  have hm := Nat.mod_lt a1 h0
  have hq : (a1 % y * 18446744073709551616 + a0) / y < 18446744073709551616 := by
    rw [Nat.div_lt_iff_lt_mul h0, Nat.mul_comm 18446744073709551616 y]
    have : (a1 % y + 1) * 18446744073709551616 ≤ y * 18446744073709551616 := Nat.mul_le_mul_right _ (by omega)
    omega
  have h1 : ∀ x ∈ [(a1 % y * 18446744073709551616 + a0) / y, a1 / y], x < 18446744073709551616 := by
    intro x hx
    simp only [List.mem_cons, List.not_mem_nil, or_false] at hx
    rcases hx with rfl | rfl
    · exact hq
    · exact Nat.lt_of_le_of_lt (Nat.div_le_self _ _) ha1
  have e : a0 + 18446744073709551616 * a1 = y * (a1 / y * 18446744073709551616) + (a1 % y * 18446744073709551616 + a0) := by
    have := Nat.div_add_mod a1 y
    have h2 : (y * (a1 / y) + a1 % y) * 18446744073709551616 = a1 * 18446744073709551616 := by rw [this]
    rw [Nat.add_mul, Nat.mul_assoc] at h2
    omega
  refine ⟨h1, ?_, ?_⟩
  · rw [vn_two _ _ [] h1, e, Nat.mul_add_div h0]
    omega
  · rw [e, Nat.mul_add_mod]

end Go.Proofs.Ytdgklodhgbbdjaa
