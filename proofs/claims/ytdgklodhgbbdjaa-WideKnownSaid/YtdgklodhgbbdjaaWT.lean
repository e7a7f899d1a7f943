/- Plain: what WideSums compares. -/
import Derived.Test.YtdgklodhgbbdjaaWS
namespace Go.Proofs.Ytdgklodhgbbdjaa
set_option linter.unusedVariables false
set_option linter.unusedSimpArgs false
open Go Go.RowKit

theorem add_uniq {P v V k : Nat} (h : v + P * k = V) (hv : v < P) (hk : k ≤ 1) : v = V % P ∧ decide (k ≠ 0) = decide (P ≤ V) := by
  subst h
  refine ⟨?_, ?_⟩
  · rw [Nat.add_mul_mod_self_left, Nat.mod_eq_of_lt hv]
  · rcases Nat.le_one_iff_eq_zero_or_eq_one.1 hk with rfl | rfl
    · rw [decide_eq_false (by omega), decide_eq_false (by omega)]
    · rw [decide_eq_true (by omega), decide_eq_true (by omega)]

theorem sub_uniq {P A B d v k k' : Nat} (h : d + B = A + P * k) (h' : v + B = A + P * k') (hd : d < P) (hv : v < P) (hk : k ≤ 1) (hk' : k' ≤ 1) : d = v ∧ k = k' := by
  rcases Nat.le_one_iff_eq_zero_or_eq_one.1 hk with rfl | rfl <;> rcases Nat.le_one_iff_eq_zero_or_eq_one.1 hk' with rfl | rfl <;> simp only [Nat.mul_zero, Nat.mul_one] at h h' <;> omega

theorem zeros_get (n j : Nat) : (List.replicate n 0).getD j 0 = 0 := by
  rw [List.getD_eq_getElem?_getD, List.getElem?_replicate]
  split <;> rfl

theorem zeros_lt (n : Nat) : ∀ x ∈ List.replicate n 0, x < 18446744073709551616 := by
  intro x hx
  rw [(List.mem_replicate.1 hx).2]
  decide

/-- The sum, as 'is' wants it. -/
theorem close_add (xs ys rs : List Nat) (ov : Bool) (n : Nat) (hx : ∀ x ∈ xs, x < 18446744073709551616) (hy : ∀ x ∈ ys, x < 18446744073709551616)
    (hrs : rs = fillOn (List.replicate n 0) (limbAt addOf xs ys) n) (hov : ov = decide (carryAt addOf xs ys n ≠ 0)) :
    rs.length = n ∧ (∀ x ∈ rs, x < 18446744073709551616) ∧ vn rs n = (vn xs n + vn ys n) % 2 ^ (64 * n) ∧ ov = decide (2 ^ (64 * n) ≤ vn xs n + vn ys n) := by
  have hr : ∀ x ∈ rs, x < 18446744073709551616 := by rw [hrs]; exact fillOn_lt _ _ (zeros_lt n) (limb_lt_add xs ys) n
  have hl : rs.length = n := by rw [hrs, fillOn_len, List.length_replicate]
  have hg : ∀ j, j < n → rs.getD j 0 = limbAt addOf xs ys j := fun j hj => by
    rw [hrs, fillOn_get _ _ n j (by rw [List.length_replicate]; exact Nat.le_refl _), if_pos hj]
  have h := add_vn xs ys rs (getD_lt hx) (getD_lt hy) (getD_lt hr) n hg n (Nat.le_refl _)
  obtain ⟨h1, h2⟩ := add_uniq h (vn_lt rs n) (carry_le_add xs ys (getD_lt hx) (getD_lt hy) n)
  exact ⟨hl, hr, h1, by rw [hov, h2]⟩

/-- The difference, as 'is' wants it, and the borrow. -/
theorem close_sub (xs ys ds bs : List Nat) (v : Nat) (ov bw : Bool) (n : Nat) (hx : ∀ x ∈ xs, x < 18446744073709551616) (hy : ∀ x ∈ ys, x < 18446744073709551616)
    (hrs : ds = fillOn (List.replicate n 0) (limbAt subOf xs ys) n) (hov : ov = decide (carryAt subOf xs ys n ≠ 0))
    (hv : v < 2 ^ (64 * n)) (h' : v + vn ys n = vn xs n + 2 ^ (64 * n) * bw.toNat) :
    ds.length = n ∧ (∀ x ∈ ds, x < 18446744073709551616) ∧ vn ds n = v ∧ ov = bw := by
  have hr : ∀ x ∈ ds, x < 18446744073709551616 := by rw [hrs]; exact fillOn_lt _ _ (zeros_lt n) (limb_lt_sub xs ys) n
  have hl : ds.length = n := by rw [hrs, fillOn_len, List.length_replicate]
  have hg : ∀ j, j < n → ds.getD j 0 = limbAt subOf xs ys j := fun j hj => by
    rw [hrs, fillOn_get _ _ n j (by rw [List.length_replicate]; exact Nat.le_refl _), if_pos hj]
  have h := sub_vn xs ys ds (getD_lt hx) (getD_lt hy) (getD_lt hr) n hg n (Nat.le_refl _)
  obtain ⟨h1, h2⟩ := sub_uniq h h' (vn_lt ds n) hv (carry_le_sub xs ys n) (by cases bw <;> decide)
  refine ⟨hl, hr, h1, ?_⟩
  rw [hov, h2]
  cases bw <;> rfl

theorem vn_val {zs : List Nat} (hz : ∀ x ∈ zs, x < 18446744073709551616) {n : Nat} (h : zs.length = n) : vn zs n = val zs := by
  rw [← natOf_bitF zs hz, h]; rfl

theorem natOf_bits (zs : List Nat) (n m : Nat) (h : m = 64 * n) : natOf (bitF zs) m = vn zs n := by rw [h]; rfl

/-- The lower half. -/
theorem close_low (x0 x1 x2 x3 x4 x5 x6 x7 : Nat) (hx : ∀ x ∈ [x0, x1, x2, x3, x4, x5, x6, x7], x < 18446744073709551616) :
    vn [x0, x1, x2, x3] 4 = natOf (bitF [x0, x1, x2, x3, x4, x5, x6, x7]) 512 % 2 ^ (64 * 4) ∧ (!decide ([x4, x5, x6, x7] = [0, 0, 0, 0])) = decide (2 ^ (64 * 4) ≤ natOf (bitF [x0, x1, x2, x3, x4, x5, x6, x7]) 512) := by
  have hu : ∀ x ∈ [x4, x5, x6, x7], x < 18446744073709551616 := fun x h => hx x (List.mem_cons_of_mem _ (List.mem_cons_of_mem _ (List.mem_cons_of_mem _ (List.mem_cons_of_mem _ h))))
  have e : natOf (bitF [x0, x1, x2, x3, x4, x5, x6, x7]) 512 = vn [x0, x1, x2, x3] 4 + 2 ^ (64 * 4) * val [x4, x5, x6, x7] := by
    have a1 : natOf (bitF [x0, x1, x2, x3, x4, x5, x6, x7]) (64 * 4) = natOf (bitF [x0, x1, x2, x3]) (64 * 4) := by
      apply natOf_congr
      intro i hi
      unfold bitF
      have hd : i / 64 < 4 := by omega
      generalize i / 64 = q at hd
      match q, hd with
      | 0, _ => rfl
      | 1, _ => rfl
      | 2, _ => rfl
      | 3, _ => rfl
    have a2 : natOf (fun t => bitF [x0, x1, x2, x3, x4, x5, x6, x7] (64 * 4 + t)) (64 * 4) = val [x4, x5, x6, x7] := by
      rw [← natOf_bitF _ hu]
      apply natOf_congr
      intro i hi
      rw [show 64 * 4 + i = 64 + (64 + (64 + (64 + i))) by omega, bitF_cons, bitF_cons, bitF_cons, bitF_cons]
    have a3 := natOf_add (bitF [x0, x1, x2, x3, x4, x5, x6, x7]) (64 * 4) (64 * 4)
    rw [a1, a2] at a3
    exact a3
  have hl := vn_lt [x0, x1, x2, x3] 4
  have hz : (val [x4, x5, x6, x7] = 0) ↔ [x4, x5, x6, x7] = [0, 0, 0, 0] := by
    constructor
    · intro h
      exact val_inj _ _ rfl hu (by intro x hx; simp at hx; omega) (by rw [h]; rfl)
    · intro h; rw [h]; rfl
  rw [e]
  refine ⟨by rw [Nat.add_mul_mod_self_left, Nat.mod_eq_of_lt hl], ?_⟩
  rw [Bool.eq_iff_iff, Bool.not_eq_true', decide_eq_false_iff_not, decide_eq_true_iff, ← hz]
  generalize 2 ^ (64 * 4) = P at *
  generalize val [x4, x5, x6, x7] = y at *
  constructor
  · intro h
    have : P * 1 ≤ P * y := Nat.mul_le_mul_left _ (by omega)
    omega
  · intro h h0
    rw [h0] at h
    omega

theorem close_cmp (xs ys : List Nat) (hx : ∀ x ∈ xs, x < 18446744073709551616) (hy : ∀ x ∈ ys, x < 18446744073709551616) (n m : Nat) (hm : m = 64 * n) : cmpTo xs ys n = cmpOf (natOf (bitF xs) m) (natOf (bitF ys) m) := by
  rw [hm]; exact cmpTo_val xs ys (getD_lt hx) (getD_lt hy) n

theorem close_len (xs : List Nat) (hx : ∀ x ∈ xs, x < 18446744073709551616) (n m : Nat) (hm : m = 64 * n) : sizeTo xs n = lenTo (bitF xs) m := by
  rw [hm]; exact size_len (getD_lt hx) n

/-- A row of bits with its number. -/
def Bin (W : World) (V M n : Nat) (bs : List Bool) (A : Option Addr) (c : Nat) : Prop := bs.length = n ∧ n ≤ M ∧ vB bs = V ∧ Row W 4 (.slice A n c) (bs.map Value.bool)
def Sum (Wf : World) (V M : Nat) (e : Ending) (W : World) : Prop := ∃ bs A n c, e = .returned (.slice A n c) ∧ Bin W V M n bs A c ∧ Below Wf.heap.size Wf W

theorem BitsV.sum {w Wf W : World} {V M : Nat} {e : Ending} (h : BitsV w V M e W) (hb : Below Wf.heap.size Wf w) : Sum Wf V M e W := by
  obtain ⟨bs, A, c, e1, h1, h2, h3⟩ := h
  exact ⟨bs, A, bs.length, c, e1, ⟨rfl, h3, h2, h1.1⟩, below3 hb h1.2.2⟩

theorem is_bin (t g c n : Nat) (ns : List Nat) (o : Bool) (A : Option Addr) (c' m M V : Nat) (bs : List Bool) (hn : n < 1000) (hM : M < 100000) (w : World) (hr : RowAt w t g c (U ns)) (hl : ns.length = n) (hu : ∀ x ∈ ns, x < 18446744073709551616) (h : Bin w V M m bs A c')
    (hv : vn ns n = V % 2 ^ (64 * n)) (ho : o = decide (2 ^ (64 * n) ≤ V)) :
    Calls Try.prog 10 #[.slice (some ⟨g, 0, none⟩) n c, .bool o, .slice A m c'] w fun e w' => e = .returned (.bool true) ∧ Below w.heap.size w w' := by
  obtain ⟨rfl, h2, rfl, h4⟩ := h
  exact is_V t g c n ns o A c' bs hn (by omega) w hr hl hu h4 hv ho

end Go.Proofs.Ytdgklodhgbbdjaa
