/- Numbers to the base 2^32, the lowest digit first: plain. -/
import Derived.Test.YtnnpfmelfhgdcaaCountY
namespace Go.Proofs.Ytnnpfmelfhgdcaa
set_option linter.unusedVariables false
open Go.RowKit Go.Shelf

namespace Dg

/-- The value of the first k digits. -/
def V (D : List Nat) : Nat → Nat
  | 0 => 0
  | k + 1 => V D k + D.getD k 0 * 4294967296 ^ k

theorem set_eq (D : List Nat) (i x : Nat) (hi : i < D.length) : (D.set i x).getD i 0 = x := by
  simp [List.getD_eq_getElem?_getD, hi]

theorem set_ne (D : List Nat) (i j x : Nat) (h : i ≠ j) : (D.set i x).getD j 0 = D.getD j 0 := by
  simp [List.getD_eq_getElem?_getD, List.getElem?_set_ne h]

theorem V_set0 (D : List Nat) (i x : Nat) : ∀ k, k ≤ i → V (D.set i x) k = V D k
  | 0, _ => rfl
  | k + 1, h => by rw [V, V, V_set0 D i x k (by omega), set_ne D i k x (by omega)]

theorem V_set (D : List Nat) (i x : Nat) (hi : i < D.length) : ∀ k, i < k → V (D.set i x) k + D.getD i 0 * 4294967296 ^ i = V D k + x * 4294967296 ^ i
  | 0, h => by omega
  | k + 1, h => by
    by_cases e : i = k
    · subst e
      rw [V, V, V_set0 D i x i (Nat.le_refl _), set_eq D i x hi]
      generalize D.getD i 0 * 4294967296 ^ i = a
      generalize x * 4294967296 ^ i = b
      omega
    · have ih := V_set D i x hi k (by omega)
      rw [V, V, set_ne D i k x e]
      generalize D.getD i 0 * 4294967296 ^ i = a at *
      generalize x * 4294967296 ^ i = b at *
      generalize D.getD k 0 * 4294967296 ^ k = c at *
      omega

/-- All digits are such. -/
def Ok (D : List Nat) : Prop := ∀ j, D.getD j 0 < 4294967296

theorem Ok.set_ {D : List Nat} (h : Ok D) (i x : Nat) (hx : x < 4294967296) : Ok (D.set i x) := by
  intro j
  by_cases e : i = j
  · subst e
    by_cases hi : i < D.length
    · rw [set_eq D i x hi]; exact hx
    · rw [List.set_eq_of_length_le (by omega)]; exact h i
  · rw [set_ne D i j x e]; exact h j

theorem V_small {D : List Nat} (h : Ok D) : ∀ k, V D k < 4294967296 ^ k
  | 0 => by simp [V]
  | k + 1 => by
    have ih := V_small h k
    have h1 : D.getD k 0 * 4294967296 ^ k ≤ 4294967295 * 4294967296 ^ k := Nat.mul_le_mul_right _ (by have := h k; omega)
    rw [V, Nat.pow_succ]
    generalize 4294967296 ^ k = p at *
    generalize D.getD k 0 * p = q at *
    omega

theorem V_stable (D : List Nat) (m : Nat) (h : ∀ j, m ≤ j → D.getD j 0 = 0) : ∀ k, m ≤ k → V D k = V D m
  | 0, hk => by rw [show m = 0 by omega]
  | k + 1, hk => by
    by_cases e : m = k + 1
    · rw [e]
    · rw [V, h k (by omega), V_stable D m h k (by omega), Nat.zero_mul, Nat.add_zero]

theorem zeros (n j : Nat) : (List.replicate n 0).getD j 0 = 0 := by
  simp only [List.getD_eq_getElem?_getD, List.getElem?_replicate]
  split <;> rfl

theorem V_zeros (n : Nat) : ∀ k, V (List.replicate n 0) k = 0
  | 0 => rfl
  | k + 1 => by rw [V, V_zeros n k, zeros, Nat.zero_mul]

theorem V_low (D : List Nat) : ∀ (k m : Nat), m < k → D.getD m 0 ≠ 0 → 4294967296 ^ m ≤ V D k
  | 0, m, h, _ => by omega
  | k + 1, m, h, h0 => by
    rw [V]
    by_cases e : m = k
    · subst e
      have : 1 * 4294967296 ^ m ≤ D.getD m 0 * 4294967296 ^ m := Nat.mul_le_mul_right _ (by omega)
      generalize D.getD m 0 * 4294967296 ^ m = q at *
      generalize 4294967296 ^ m = p at *
      omega
    · have := V_low D k m (by omega) h0
      exact Nat.le_trans this (Nat.le_add_right _ _)

theorem V_agree (A B : List Nat) (k : Nat) : ∀ n, k ≤ n → (∀ j, k ≤ j → j < n → A.getD j 0 = B.getD j 0) → V A n + V B k = V B n + V A k
  | 0, h, _ => by
    have : k = 0 := by omega
    subst this
    rfl
  | n + 1, h, hj => by
    by_cases e : k = n + 1
    · subst e; omega
    · have ih := V_agree A B k n (by omega) (fun j h1 h2 => hj j h1 (by omega))
      rw [V, V, hj n (by omega) (by omega)]
      generalize B.getD n 0 * 4294967296 ^ n = q
      omega

/-- The highest digit in which two numbers differ tells which is less. -/
theorem V_lt {A B : List Nat} (hA : Ok A) {i n : Nat} (hi : i < n) (hj : ∀ j, i + 1 ≤ j → j < n → A.getD j 0 = B.getD j 0) (hlt : A.getD i 0 < B.getD i 0) : V A n < V B n := by
  have h1 := V_agree A B (i + 1) n (by omega) hj
  have h2 : V A (i + 1) < V B (i + 1) := by
    rw [V, V]
    have h3 := V_small hA i
    have h4 : (A.getD i 0 + 1) * 4294967296 ^ i ≤ B.getD i 0 * 4294967296 ^ i := Nat.mul_le_mul_right _ (by omega)
    rw [Nat.add_mul, Nat.one_mul] at h4
    generalize A.getD i 0 * 4294967296 ^ i = a at *
    generalize B.getD i 0 * 4294967296 ^ i = b at *
    generalize 4294967296 ^ i = p at *
    omega
  omega

theorem V_eq {A B : List Nat} {n : Nat} (hj : ∀ j, j < n → A.getD j 0 = B.getD j 0) : V A n = V B n := by
  have := V_agree A B 0 n (by omega) (fun j _ h => hj j h)
  simpa [V] using this

/-- Which of two numbers without leading noughts is longer, is greater. -/
theorem V_longer {A B : List Nat} (hA : Ok A) {m n : Nat} (h : m < n) (hm : 1 ≤ m) (hB : 1 < n → B.getD (n - 1) 0 ≠ 0) : V A m < V B n := by
  have h1 := V_small hA m
  have h2 := V_low B n (n - 1) (by omega) (hB (by omega))
  have h3 : 4294967296 ^ m ≤ 4294967296 ^ (n - 1) := Nat.pow_le_pow_right (by omega) (by omega)
  omega

/-- A round of a product. -/
theorem round (D : List Nat) (n i k c y l s q p : Nat) (hD : Ok D) (hn : D.length = n) (hi : i + k < n) (hy : y < 4294967296) (hl : l < 4294967296) (hc : c < 4294967296)
    (h : V D n + c * 4294967296 ^ (i + k) = s + q * y * 4294967296 ^ k) :
    l * y + D.getD (i + k) 0 + c < 18446744073709551616 ∧ (l * y + D.getD (i + k) 0 + c) / 4294967296 < 4294967296 ∧
    V (D.set (i + k) ((l * y + D.getD (i + k) 0 + c) % 4294967296)) n + (l * y + D.getD (i + k) 0 + c) / 4294967296 * 4294967296 ^ (i + 1 + k) = s + (q + l * 4294967296 ^ i) * y * 4294967296 ^ k := by
  have h1 : l * y ≤ 4294967295 * 4294967295 := Nat.mul_le_mul (by omega) (by omega)
  have h2 := hD (i + k)
  have h3 := V_set D (i + k) ((l * y + D.getD (i + k) 0 + c) % 4294967296) (by omega) n hi
  have e1 : (q + l * 4294967296 ^ i) * y * 4294967296 ^ k = q * y * 4294967296 ^ k + l * y * 4294967296 ^ (i + k) := by
    rw [Nat.add_mul, Nat.add_mul, Nat.pow_add]
    congr 1
    rw [Nat.mul_right_comm l, Nat.mul_assoc]
  have e2 : 4294967296 ^ (i + 1 + k) = 4294967296 * 4294967296 ^ (i + k) := by
    rw [show i + 1 + k = (i + k) + 1 by omega, Nat.pow_succ, Nat.mul_comm]
  refine ⟨by omega, by omega, ?_⟩
  rw [e1, e2]
  generalize D.getD (i + k) 0 = d at *
  generalize l * y = ly at *
  generalize hz : ly + d + c = z at *
  have e3 : z / 4294967296 * (4294967296 * 4294967296 ^ (i + k)) = z / 4294967296 * 4294967296 * 4294967296 ^ (i + k) := by rw [Nat.mul_assoc]
  have e4 : z / 4294967296 * 4294967296 * 4294967296 ^ (i + k) + z % 4294967296 * 4294967296 ^ (i + k) = z * 4294967296 ^ (i + k) := by
    rw [← Nat.add_mul, Nat.div_add_mod']
  have e5 : z * 4294967296 ^ (i + k) = ly * 4294967296 ^ (i + k) + d * 4294967296 ^ (i + k) + c * 4294967296 ^ (i + k) := by
    rw [← hz, Nat.add_mul, Nat.add_mul]
  rw [e3]
  generalize z / 4294967296 * 4294967296 * 4294967296 ^ (i + k) = a1 at *
  generalize z % 4294967296 * 4294967296 ^ (i + k) = a2 at *
  generalize z * 4294967296 ^ (i + k) = a3 at *
  generalize ly * 4294967296 ^ (i + k) = a4 at *
  generalize d * 4294967296 ^ (i + k) = a5 at *
  generalize c * 4294967296 ^ (i + k) = a6 at *
  generalize q * y * 4294967296 ^ k = a7 at *
  omega

/-- What is carried over. -/
theorem carry (D : List Nat) (n i c s : Nat) (hD : Ok D) (hn : D.length = n) (hi : i < n) (hc : c < 4294967296) (h : V D n + c * 4294967296 ^ i = s) :
    D.getD i 0 + c < 18446744073709551616 ∧ (D.getD i 0 + c) / 4294967296 < 4294967296 ∧
    V (D.set i ((D.getD i 0 + c) % 4294967296)) n + (D.getD i 0 + c) / 4294967296 * 4294967296 ^ (i + 1) = s := by
  have := round D n i 0 c 0 0 s 0 0 hD hn (by simpa using hi) (by decide) (by decide) hc (by simpa using h)
  simpa using this

/-- At the end of the row nothing is carried over. -/
theorem carried (D : List Nat) (n i c s : Nat) (hi : ¬ i < n) (h : V D n + c * 4294967296 ^ i = s) (hs : s < 4294967296 ^ n) : c = 0 := by
  rcases Nat.eq_zero_or_pos c with h0 | h0
  · exact h0
  · have h1 : 1 * 4294967296 ^ i ≤ c * 4294967296 ^ i := Nat.mul_le_mul_right _ h0
    have h2 : 4294967296 ^ n ≤ 4294967296 ^ i := Nat.pow_le_pow_right (by omega) (by omega)
    omega

end Dg

/-- The cells of such digits. -/
def Wd (D : List Nat) : Array Value := (D.map fun (x : Nat) => Value.int .u32 (x : Int)).toArray

theorem Wd_get (D : List Nat) (i : Nat) (h : i < D.length) : (Wd D)[i]? = some (.int .u32 (D.getD i 0 : Nat)) := by
  simp [Wd, List.getD_eq_getElem?_getD, List.getElem?_eq_getElem h]

theorem Wd_set (D : List Nat) (i x : Nat) : (Wd D).setIfInBounds i (.int .u32 (x : Int)) = Wd (D.set i x) := by
  simp [Wd, List.map_set]

theorem Wd_zeros (n : Nat) : madeCells #[Value.int .u32 0] n = Wd (List.replicate n 0) := by
  apply Array.ext'
  simp [madeCells, Wd, Nat.mod_one]
  exact List.eq_replicate_iff.2 ⟨by simp, fun b hb => by simpa using (List.mem_map.1 hb).elim fun _ h => h.2.symm⟩

/-- A number in a row of the call's own. -/
def Num (W : World) (v : Value) (N m : Nat) : Prop :=
  ∃ (g c : Nat) (D : List Nat), v = .slice (some ⟨g, 0, none⟩) m c ∧ Laid W g 37 (Wd D) ∧ D.length = c ∧ 1 ≤ m ∧ m ≤ c ∧ Dg.Ok D ∧ Dg.V D m = N ∧ (1 < m → D.getD (m - 1) 0 ≠ 0)

theorem Num.below {W W' : World} {v : Value} {N m : Nat} (h : Num W v N m) (hb : Below W.heap.size W W') : Num W' v N m := by
  obtain ⟨g, c, D, h1, h2, h3⟩ := h
  exact ⟨g, c, D, h1, h2.below hb, h3⟩

theorem Laid.frozen {W : World} {g : Nat} {t : TypeId} {cs : Array Value} (h : Laid W g t cs) (i : Nat) : W.frozen? ⟨g, i, none⟩ = false := by
  unfold Laid at h
  simp [World.frozen?, h]
theorem Laid.set_ {W : World} {g : Nat} {t : TypeId} {cs : Array Value} (h : Laid W g t cs) (i : Nat) (u : Value) : Laid (W.setCell ⟨g, i, none⟩ u) g t (cs.setIfInBounds i u) := by
  unfold Laid at h ⊢
  simp [World.setCell, Array.getElem?_modify, h]
theorem Laid.far {W : World} {g : Nat} {t : TypeId} {cs : Array Value} (h : Laid W g t cs) {p : Addr} (hp : g ≠ p.block) (u : Value) : Laid (W.setCell p u) g t cs := (Below.heap_setCell W p u g hp).trans h

end Go.Proofs.Ytnnpfmelfhgdcaa
