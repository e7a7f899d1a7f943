/- An element is appended to a row. -/
import Derived.Test.YthchnjimhcjagaaSlotC
import Derived.Test.YthchnjimhcjagaaTill
import Derived.Deep.AppendLies
namespace Go.Proofs.Ythchnjimhcjagaa
set_option linter.unusedVariables false
open Go Go.RowKit

theorem info_u64 : ∃ i, Try.prog.info? 36 = some i ∧ i.zero = some (.int .u64 0) ∧ i.size = 1 ∧ i.bytes = 8 := by
  have h : (Try.prog.info? 36).map (fun i => (i.zero, i.size, i.bytes)) = some (some (.int .u64 0), 1, 8) := by kernel_rfl
  obtain ⟨i, hi, hz⟩ := Option.map_eq_some_iff.1 h
  simp only [Prod.mk.injEq] at hz
  exact ⟨i, hi, hz⟩

theorem info_bool : ∃ i, Try.prog.info? 4 = some i ∧ i.zero = some (.bool false) ∧ i.size = 1 ∧ i.bytes = 1 := by
  have h : (Try.prog.info? 4).map (fun i => (i.zero, i.size, i.bytes)) = some (some (.bool false), 1, 1) := by kernel_rfl
  obtain ⟨i, hi, hz⟩ := Option.map_eq_some_iff.1 h
  simp only [Prod.mk.injEq] at hz
  exact ⟨i, hi, hz⟩

theorem maxLen_big (n : Nat) (h : n < 1000000) : n + 1 ≤ maxLen := by
  have : maxLen = 9223372036854775807 := by decide +kernel
  omega

section
variable {ops : Array Oper} {rest : List Oper} {o : Oper} {a : Act} {K : Act → World → Prop} {Q : Exit → Act → World → Prop} {E : Prop}

theorem wp_push (T e : TypeId) (z : Value) (bytes : Nat) (hT : Try.prog.underlying T = some (.slice e)) (hI : ∃ i, Try.prog.info? e = some i ∧ i.zero = some z ∧ i.size = 1 ∧ i.bytes = bytes) (hz1 : z.cells.size = 1) (hby : bytes ≤ 24)
    (s x : Operand) (ho : o.op = .call { callee := .builtin .append, args := #[s, x], argTypes := #[T, T] })
    (w : World) (v : Value) (xs : List Value) (hs : a.eval s = v) (hr : Row w e v xs) (b : Nat) (u : Value) (hx : a.eval x = .slice (some ⟨b, 0, none⟩) 1 1) (hb : w.heap[b]? = some (.cells #[u] e (0, 0))) (hu : u.oneCell' = true) (hn : xs.length < 1000000)
    (h : ∀ g cap w', Row w' e (.slice (some ⟨g, 0, none⟩) (xs.length + 1) cap) (xs ++ [u]) → w.grownBy w' v.ownBlock → (v.ownBlock = some g ∨ g = w.heap.size) → g < w'.heap.size → K (a.put o.dst (.slice (some ⟨g, 0, none⟩) (xs.length + 1) cap)) w') : o.wp Try.prog a w K Q := by
  obtain ⟨i, hi, hz, hsz, hbb⟩ := hI
  have hby2 : (xs.length + 1) * bytes ≤ 140737488355328 := Nat.le_trans (Nat.mul_le_mul (show xs.length + 1 ≤ 1000001 by omega) hby) (by decide)
  refine wp_append_lies w s x T ho 0 e i z 1 bytes hT hi hz hsz hbb hz1 (by decide) v xs.length xs hs hr ⟨b, 0, none⟩ 1 1 [u] hx rfl (World.news_of_block (cs := #[u]) hb) (fun u' hu' => by simp at hu'; subst hu'; exact hu) (by decide) (maxLen_big _ hn) hby2 (Nat.zero_le _) _ rfl ?_
  intro g cap w' h1 h2 h3 h4
  refine h g cap w' ?_ h2 h3 h4
  unfold Row
  rw [List.length_append]
  exact h1

theorem wpList_push (T e : TypeId) (z : Value) (bytes : Nat) (hT : Try.prog.underlying T = some (.slice e)) (hI : ∃ i, Try.prog.info? e = some i ∧ i.zero = some z ∧ i.size = 1 ∧ i.bytes = bytes) (hz1 : z.cells.size = 1) (hby : bytes ≤ 24)
    (hgd : o.guard = none) (s x : Operand) (ho : o.op = .call { callee := .builtin .append, args := #[s, x], argTypes := #[T, T] })
    (w : World) (v : Value) (xs : List Value) (hs : a.eval s = v) (hr : Row w e v xs) (b : Nat) (u : Value) (hx : a.eval x = .slice (some ⟨b, 0, none⟩) 1 1) (hb : w.heap[b]? = some (.cells #[u] e (0, 0))) (hu : u.oneCell' = true) (hn : xs.length < 1000000)
    (h : ∀ g cap w', Row w' e (.slice (some ⟨g, 0, none⟩) (xs.length + 1) cap) (xs ++ [u]) → w.grownBy w' v.ownBlock → (v.ownBlock = some g ∨ g = w.heap.size) → g < w'.heap.size → wpList Try.prog ops Q rest (a.put o.dst (.slice (some ⟨g, 0, none⟩) (xs.length + 1) cap)) w') : wpList Try.prog ops Q (o :: rest) a w :=
  wpList_plain hgd fun _ hK => wp_push T e z bytes hT hI hz1 hby s x ho w v xs hs hr b u hx hb hu hn fun g cap w' h2 h3 h4 h5 => hK _ _ (h g cap w' h2 h3 h4 h5)

theorem step_push (T e : TypeId) (z : Value) (bytes : Nat) (hT : Try.prog.underlying T = some (.slice e)) (hI : ∃ i, Try.prog.info? e = some i ∧ i.zero = some z ∧ i.size = 1 ∧ i.bytes = bytes) (hz1 : z.cells.size = 1) (hby : bytes ≤ 24)
    (hgd : o.guard = none) (s x : Operand) (ho : o.op = .call { callee := .builtin .append, args := #[s, x], argTypes := #[T, T] })
    (w : World) (v : Value) (xs : List Value) (hs : a.eval s = v) (hr : Row w e v xs) (b : Nat) (u : Value) (hx : a.eval x = .slice (some ⟨b, 0, none⟩) 1 1) (hb : w.heap[b]? = some (.cells #[u] e (0, 0))) (hu : u.oneCell' = true) (hn : xs.length < 1000000)
    (h : ∀ g cap w', Row w' e (.slice (some ⟨g, 0, none⟩) (xs.length + 1) cap) (xs ++ [u]) → w.grownBy w' v.ownBlock → (v.ownBlock = some g ∨ g = w.heap.size) → g < w'.heap.size → K (a.put o.dst (.slice (some ⟨g, 0, none⟩) (xs.length + 1) cap)) w') :
    if Region.wanted o (yielded ops a.tmps) = true then Oper.wp Try.prog o a w K Q else E := by
  have hw : Region.wanted o (yielded ops a.tmps) = true := by simp [Region.wanted, hgd]
  rw [if_pos hw]
  exact wp_push T e z bytes hT hI hz1 hby s x ho w v xs hs hr b u hx hb hu hn h

end

/-- The plain text of a layout: sums ahead, ends, who. -/
def Pre (ws : List Nat) (bs : List Bool) : Nat → Nat
  | 0 => 0
  | k + 1 => Pre ws bs k + (if bs.getD k false then ws.getD k 0 else 0)
def Sums (ws : List Nat) (bs : List Bool) : Nat → List Nat
  | 0 => [0]
  | k + 1 => Sums ws bs k ++ [Pre ws bs (k + 1)]
def Ends (ws : List Nat) (bs : List Bool) : Nat → List Nat
  | 0 => []
  | k + 1 => if bs.getD k false then Ends ws bs k ++ [Pre ws bs (k + 1)] else Ends ws bs k
def Who (bs : List Bool) : Nat → List Nat
  | 0 => []
  | k + 1 => if bs.getD k false then Who bs k ++ [k] else Who bs k

theorem Sums_len (ws : List Nat) (bs : List Bool) : ∀ k, (Sums ws bs k).length = k + 1
  | 0 => rfl
  | k + 1 => by rw [Sums, List.length_append, Sums_len ws bs k]; rfl

theorem getD_app (l : List Nat) (x j : Nat) : (l ++ [x]).getD j 0 = if j < l.length then l.getD j 0 else if j = l.length then x else 0 := by
  simp only [List.getD_eq_getElem?_getD]
  split
  · rename_i h; rw [List.getElem?_append_left h]
  · rename_i h
    rw [List.getElem?_append_right (by omega)]
    split
    · rename_i e; rw [e, Nat.sub_self]; rfl
    · rw [List.getElem?_eq_none (by simp; omega)]; rfl

theorem Sums_get (ws : List Nat) (bs : List Bool) : ∀ k j, j ≤ k → (Sums ws bs k).getD j 0 = Pre ws bs j
  | 0, j, h => by rw [show j = 0 by omega]; rfl
  | k + 1, j, h => by
    rw [Sums, getD_app, Sums_len]
    split
    · exact Sums_get ws bs k j (by omega)
    · rw [if_pos (by omega), show j = k + 1 by omega]

theorem Ends_len (ws : List Nat) (bs : List Bool) : ∀ k, (Ends ws bs k).length = (Who bs k).length
  | 0 => rfl
  | k + 1 => by
    rw [Ends, Who]
    split
    · rw [List.length_append, List.length_append, Ends_len ws bs k]; rfl
    · exact Ends_len ws bs k

theorem Who_len (bs : List Bool) : ∀ k, (Who bs k).length ≤ k
  | 0 => Nat.le_refl _
  | k + 1 => by
    have := Who_len bs k
    rw [Who]
    split
    · rw [List.length_append]; simp; omega
    · omega

theorem Pre_rises (ws : List Nat) (bs : List Bool) : ∀ i k, i ≤ k → Pre ws bs i ≤ Pre ws bs k
  | i, 0, h => by rw [show i = 0 by omega]; exact Nat.le_refl _
  | i, k + 1, h => by
    rcases Nat.eq_or_lt_of_le h with rfl | h
    · exact Nat.le_refl _
    · have := Pre_rises ws bs i k (by omega)
      rw [Pre]; omega

/-- Who the j-th one is: a position that signed, and where it ends. -/
theorem Who_get (ws : List Nat) (bs : List Bool) : ∀ k j, j < (Who bs k).length → (Who bs k).getD j 0 < k ∧ bs.getD ((Who bs k).getD j 0) false = true ∧ (Ends ws bs k).getD j 0 = Pre ws bs ((Who bs k).getD j 0 + 1)
  | 0, j, h => by simp [Who] at h
  | k + 1, j, h => by
    rw [Who, Ends] at *
    by_cases hb : bs.getD k false = true
    · rw [if_pos hb] at h ⊢
      rw [if_pos hb, getD_app, getD_app, Ends_len]
      rw [List.length_append] at h
      by_cases hj : j < (Who bs k).length
      · rw [if_pos hj, if_pos hj]
        obtain ⟨a, b, c⟩ := Who_get ws bs k j hj
        exact ⟨by omega, b, c⟩
      · have : j = (Who bs k).length := by simp at h; omega
        rw [if_neg hj, if_neg hj, if_pos this, if_pos this]
        exact ⟨by omega, hb, rfl⟩
    · rw [if_neg hb] at h ⊢
      rw [if_neg hb]
      obtain ⟨a, b, c⟩ := Who_get ws bs k j h
      exact ⟨by omega, b, c⟩

end Go.Proofs.Ythchnjimhcjagaa
