/- Plain: sums and differences, limb by limb as bit by bit. -/
import Derived.Test.YtdgklodhgbbdjaaWQ
namespace Go.Proofs.Ytdgklodhgbbdjaa
set_option linter.unusedVariables false
set_option linter.unusedSimpArgs false
open Go Go.RowKit

/-- The number of the first n limbs. -/
def vn (zs : List Nat) (n : Nat) : Nat := natOf (bitF zs) (64 * n)

theorem vn_succ (zs : List Nat) (hz : ∀ j, zs.getD j 0 < 18446744073709551616) (k : Nat) : vn zs (k + 1) = vn zs k + 2 ^ (64 * k) * zs.getD k 0 := by
  unfold vn
  rw [show 64 * (k + 1) = 64 * k + 64 by omega, natOf_add]
  congr 2
  rw [natOf_congr _ (fun t => (zs.getD k 0).testBit t) 64 (fun i hi => bitF_at zs k i hi)]
  exact natOf_self _ 64 (hz k)

theorem vn_lt (zs : List Nat) (n : Nat) : vn zs n < 2 ^ (64 * n) := natOf_lt _ _

theorem getD_lt {zs : List Nat} (h : ∀ x ∈ zs, x < 18446744073709551616) (j : Nat) : zs.getD j 0 < 18446744073709551616 := by
  rcases Nat.lt_or_ge j zs.length with hl | hl
  · exact h _ (getD_mem zs j hl)
  · rw [List.getD_eq_getElem?_getD, List.getElem?_eq_none hl]; decide

theorem fillOn_get (os : List Nat) (f : Nat → Nat) : ∀ k j, k ≤ os.length → (fillOn os f k).getD j 0 = if j < k then f j else os.getD j 0
  | 0, j, _ => by rw [if_neg (by omega)]; rfl
  | k + 1, j, h => by
    have ih := fillOn_get os f k j (by omega)
    have hl := fillOn_len os f k
    rw [fillOn, List.getD_eq_getElem?_getD, List.getElem?_set]
    by_cases e : k = j
    · subst e
      rw [if_pos rfl, if_pos (by omega), if_pos (by omega)]; rfl
    · rw [if_neg e, ← List.getD_eq_getElem?_getD, ih]
      by_cases h1 : j < k
      · rw [if_pos h1, if_pos (by omega)]
      · rw [if_neg h1, if_neg (by omega)]

theorem carry_le_add (xs ys : List Nat) (hx : ∀ j, xs.getD j 0 < 18446744073709551616) (hy : ∀ j, ys.getD j 0 < 18446744073709551616) : ∀ k, carryAt addOf xs ys k ≤ 1
  | 0 => Nat.zero_le _
  | k + 1 => addOf_le _ _ _ (carry_le_add xs ys hx hy k) (hx k) (hy k)

theorem carry_le_sub (xs ys : List Nat) : ∀ k, carryAt subOf xs ys k ≤ 1
  | 0 => Nat.zero_le _
  | k + 1 => subOf_le _ _ _

/-- The sum of the limbs, and the carry. -/
theorem add_vn (xs ys rs : List Nat) (hx : ∀ j, xs.getD j 0 < 18446744073709551616) (hy : ∀ j, ys.getD j 0 < 18446744073709551616) (hr : ∀ j, rs.getD j 0 < 18446744073709551616) (n : Nat) (hf : ∀ j, j < n → rs.getD j 0 = limbAt addOf xs ys j) :
    ∀ k, k ≤ n → vn rs k + 2 ^ (64 * k) * carryAt addOf xs ys k = vn xs k + vn ys k
  | 0, _ => rfl
  | k + 1, hk => by
    have ih := add_vn xs ys rs hx hy hr n hf k (by omega)
    rw [vn_succ rs hr, vn_succ xs hx, vn_succ ys hy, hf k (by omega)]
    have e : limbAt addOf xs ys k + 18446744073709551616 * carryAt addOf xs ys (k + 1) = xs.getD k 0 + ys.getD k 0 + carryAt addOf xs ys k := by
      show (addOf _ _ _).1 + 18446744073709551616 * (addOf _ _ _).2 = _
      unfold addOf
      simp only
      omega
    have h1 : 2 ^ (64 * k) * (limbAt addOf xs ys k + 18446744073709551616 * carryAt addOf xs ys (k + 1)) = 2 ^ (64 * k) * (xs.getD k 0 + ys.getD k 0 + carryAt addOf xs ys k) := by rw [e]
    rw [Nat.mul_add, Nat.mul_add, Nat.mul_add, ← Nat.mul_assoc] at h1
    rw [show 64 * (k + 1) = 64 * k + 64 by omega, Nat.pow_add, show (2 : Nat) ^ 64 = 18446744073709551616 by decide]
    omega

/-- The difference of the limbs, and the borrow. -/
theorem sub_vn (xs ys rs : List Nat) (hx : ∀ j, xs.getD j 0 < 18446744073709551616) (hy : ∀ j, ys.getD j 0 < 18446744073709551616) (hr : ∀ j, rs.getD j 0 < 18446744073709551616) (n : Nat) (hf : ∀ j, j < n → rs.getD j 0 = limbAt subOf xs ys j) :
    ∀ k, k ≤ n → vn rs k + vn ys k = vn xs k + 2 ^ (64 * k) * carryAt subOf xs ys k
  | 0, _ => rfl
  | k + 1, hk => by
    have ih := sub_vn xs ys rs hx hy hr n hf k (by omega)
    rw [vn_succ rs hr, vn_succ xs hx, vn_succ ys hy, hf k (by omega)]
    have hc := carry_le_sub xs ys k
    have e : limbAt subOf xs ys k + ys.getD k 0 + carryAt subOf xs ys k = xs.getD k 0 + 18446744073709551616 * carryAt subOf xs ys (k + 1) := by
      have h1 := hx k
      have h2 := hy k
      show (subOf _ _ _).1 + _ + _ = _ + 18446744073709551616 * (subOf _ _ _).2
      generalize carryAt subOf xs ys k = cc at hc ⊢
      generalize xs.getD k 0 = xx at h1 ⊢
      generalize ys.getD k 0 = yy at h2 ⊢
      unfold subOf
      simp only
      split <;> omega
    have h1 : 2 ^ (64 * k) * (limbAt subOf xs ys k + ys.getD k 0 + carryAt subOf xs ys k) = 2 ^ (64 * k) * (xs.getD k 0 + 18446744073709551616 * carryAt subOf xs ys (k + 1)) := by rw [e]
    rw [Nat.mul_add, Nat.mul_add, Nat.mul_add, ← Nat.mul_assoc] at h1
    rw [show 64 * (k + 1) = 64 * k + 64 by omega, Nat.pow_add, show (2 : Nat) ^ 64 = 18446744073709551616 by decide]
    omega

/-- 'is', of any bits. -/
theorem is_V (t g c n : Nat) (ns : List Nat) (o : Bool) (A : Option Addr) (c' : Nat) (bs : List Bool) (hn : n < 1000) (hm : bs.length < 100000) (w : World) (hr : RowAt w t g c (U ns)) (hl : ns.length = n) (hu : ∀ x ∈ ns, x < 18446744073709551616) (h : Row w 4 (.slice A bs.length c') (bs.map Value.bool))
    (hv : vn ns n = vB bs % 2 ^ (64 * n)) (ho : o = decide (2 ^ (64 * n) ≤ vB bs)) :
    Calls Try.prog 10 #[.slice (some ⟨g, 0, none⟩) n c, .bool o, .slice A bs.length c'] w fun e w' => e = .returned (.bool true) ∧ Below w.heap.size w w' := by
  have h2 : Row w 4 (.slice A bs.length c') ((Bf (bfun bs) bs.length).map Value.bool) := by rw [Bf_bfun]; exact h
  have e1 : val ns = vn ns n := by rw [← natOf_bitF ns hu, hl]; rfl
  have hE : (decide (ns = limbsUp (bfun bs) n bs.length) && (o == overUp (bfun bs) n bs.length)) = true := by
    rw [is_val ns o (bfun bs) n bs.length hl hu, e1, show natOf (bfun bs) bs.length = vB bs from rfl, decide_eq_true hv, ho]
    simp only [Bool.true_and, beq_self_eq_true]
  exact (is_any t g c n ns o A c' bs.length (bfun bs) hn hm w hr hl h2).mono fun e w' hh => ⟨by rw [hh.1, hE], hh.2⟩

theorem fillOn_lt (os : List Nat) (f : Nat → Nat) (hos : ∀ x ∈ os, x < 18446744073709551616) (hf : ∀ j, f j < 18446744073709551616) : ∀ k, ∀ x ∈ fillOn os f k, x < 18446744073709551616
  | 0 => hos
  | k + 1 => fun x hx => by
    rw [fillOn] at hx
    rcases List.mem_or_eq_of_mem_set hx with h | h
    · exact fillOn_lt os f hos hf k x h
    · rw [h]; exact hf k

theorem limb_lt_add (xs ys : List Nat) (j : Nat) : limbAt addOf xs ys j < 18446744073709551616 := Nat.mod_lt _ (by decide)
theorem limb_lt_sub (xs ys : List Nat) (j : Nat) : limbAt subOf xs ys j < 18446744073709551616 := Nat.mod_lt _ (by decide)

end Go.Proofs.Ytdgklodhgbbdjaa
