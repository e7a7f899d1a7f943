/- Rows of the call's own: elements of one cell. -/
import Derived.Below
import Derived.Laws.OwnMore
import Derived.Laws.AppendOwn
import Derived.Deep.Draws
import Derived.Laws.Rows
namespace Go.Proofs.Ytdgklodhgbbdjaa
set_option linter.unusedVariables false
open Go.RowKit

/-- The row xs lies in v: nothing, or the head of a block that is known. -/
def Row (W : World) (t : TypeId) (v : Value) (xs : List Value) : Prop := W.ownsRow 0 t 1 v xs.length xs

/-- It lies at the head of block g, which has room for c. -/
def RowAt (W : World) (t : TypeId) (g c : Nat) (xs : List Value) : Prop :=
  ∃ cur : Array Value, W.heap[g]? = some (.cells cur t (0, 0)) ∧ xs.length ≤ c ∧ c ≤ maxLen ∧ cur.size = c ∧ cur.toList.take xs.length = xs

section
variable {W W' : World} {t : TypeId} {v : Value} {g c : Nat} {xs : List Value}

theorem Row.cases (h : Row W t v xs) : (v = .slice none 0 0 ∧ xs = []) ∨ ∃ g c, v = .slice (some ⟨g, 0, none⟩) xs.length c ∧ RowAt W t g c xs := by
  rcases h.2 with ⟨h1, h2⟩ | ⟨g, c, cur, h1, _, h2, h3, h4, h5, h6⟩
  · exact .inl ⟨h1, List.eq_nil_of_length_eq_zero h2⟩
  · exact .inr ⟨g, c, h1, cur, h2, h3, h4, by rw [h5, Nat.mul_one], by rw [Nat.mul_one] at h6; exact h6⟩

theorem Row.nil (W : World) (t : TypeId) : Row W t (.slice none 0 0) [] := World.ownsRow_nil W 0 t 1

theorem RowAt.row (h : RowAt W t g c xs) : Row W t (.slice (some ⟨g, 0, none⟩) xs.length c) xs := by
  obtain ⟨cur, h1, h2, h3, h4, h5⟩ := h
  exact ⟨by rw [Nat.mul_one], .inr ⟨g, c, cur, rfl, Nat.zero_le _, h1, h2, h3, by rw [h4, Nat.mul_one], by rw [Nat.mul_one]; exact h5⟩⟩

theorem RowAt.lt (h : RowAt W t g c xs) : g < W.heap.size := by
  obtain ⟨cur, h1, _⟩ := h
  exact (Array.getElem?_eq_some_iff.1 h1).1

theorem RowAt.of_block (h : RowAt W t g c xs) (hb : W'.heap[g]? = W.heap[g]?) : RowAt W' t g c xs := by
  obtain ⟨cur, h1, h2⟩ := h
  exact ⟨cur, hb.trans h1, h2⟩

theorem RowAt.cell (h : RowAt W t g c xs) {k : Nat} (hk : k < xs.length) : W.cell? ⟨g, k, none⟩ = xs[k]? := by
  obtain ⟨cur, h1, h2, h3, h4, h5⟩ := h
  have e : xs[k]? = cur[k]? := by
    rw [← h5, List.getElem?_take, if_pos hk]
    simp
  rw [e]
  simp [World.cell?, h1]

theorem RowAt.cap (h : RowAt W t g c xs) : xs.length ≤ c ∧ c ≤ maxLen := by
  obtain ⟨cur, _, h2, h3, _⟩ := h
  exact ⟨h2, h3⟩

theorem RowAt.frozen (h : RowAt W t g c xs) (k : Nat) : W.frozen? ⟨g, k, none⟩ = false := by
  obtain ⟨cur, h1, _⟩ := h
  simp [World.frozen?, h1]

theorem RowAt.below (h : RowAt W t g c xs) (hb : Below W.heap.size W W') : RowAt W' t g c xs := h.of_block (hb.block _ h.lt)
theorem RowAt.drewN (h : RowAt W t g c xs) (n : Nat) : RowAt (W.drewN n) t g c xs := h
theorem RowAt.drew (h : RowAt W t g c xs) : RowAt W.drew t g c xs := h
theorem RowAt.alloc (h : RowAt W t g c xs) (o : Obj) : RowAt (W.alloc o) t g c xs := h.of_block (Below.heap_alloc W o g h.lt)
theorem RowAt.far (h : RowAt W t g c xs) {p : Addr} (hp : g ≠ p.block) (u : Value) : RowAt (W.setCell p u) t g c xs := h.of_block (Below.heap_setCell W p u g hp)
theorem RowAt.grown {row : Option Nat} (h : RowAt W t g c xs) (hg : W.grownBy W' row) (hr : some g ≠ row) : RowAt W' t g c xs := h.of_block (hg.block _ h.lt hr)

theorem RowAt.set_ (h : RowAt W t g c xs) (k : Nat) (u : Value) : RowAt (W.setCell ⟨g, k, none⟩ u) t g c (xs.set k u) := by
  obtain ⟨cur, h1, h2, h3, h4, h5⟩ := h
  refine ⟨cur.setIfInBounds k u, ?_, by rw [List.length_set]; exact h2, h3, by rw [Array.size_setIfInBounds]; exact h4, ?_⟩
  · simp [World.setCell, Array.getElem?_modify, h1]
  · rw [List.length_set, Array.toList_setIfInBounds, List.take_set, h5]

theorem RowAt.new (W : World) (t : TypeId) (xs : List Value) (h : xs.length ≤ maxLen) : RowAt (W.alloc (.cells xs.toArray t)) t W.heap.size xs.length xs :=
  ⟨xs.toArray, heap_alloc_new W _, Nat.le_refl _, h, by simp, by simp⟩

theorem Row.of_block (h : Row W t v xs) (hb : ∀ k, v.ownBlock = some k → W'.heap[k]? = W.heap[k]?) : Row W' t v xs := by
  rcases h.cases with ⟨rfl, rfl⟩ | ⟨g, c, rfl, hg⟩
  · exact Row.nil _ _
  · exact (hg.of_block (hb g rfl)).row

theorem Row.lt (h : Row W t v xs) (k : Nat) (hk : v.ownBlock = some k) : k < W.heap.size := (World.ownsRow.lt h k hk).2
theorem Row.below (h : Row W t v xs) (hb : Below W.heap.size W W') : Row W' t v xs := h.of_block fun k hk => hb.block k (h.lt k hk)
theorem Row.drewN (h : Row W t v xs) (n : Nat) : Row (W.drewN n) t v xs := h
theorem Row.drew (h : Row W t v xs) : Row W.drew t v xs := h
theorem Row.alloc (h : Row W t v xs) (o : Obj) : Row (W.alloc o) t v xs := h.of_block fun k hk => Below.heap_alloc W o k (h.lt k hk)
theorem Row.far (h : Row W t v xs) {p : Addr} (hp : v.ownBlock ≠ some p.block) (u : Value) : Row (W.setCell p u) t v xs :=
  h.of_block fun k hk => Below.heap_setCell W p u k (fun e => hp (e ▸ hk))
theorem Row.grown {row : Option Nat} (h : Row W t v xs) (hg : W.grownBy W' row) (hr : v.ownBlock ≠ none → v.ownBlock ≠ row) : Row W' t v xs :=
  h.of_block fun k hk => hg.block k (h.lt k hk) (by rw [← hk]; exact hr (by rw [hk]; simp))

/-- A row of numbers, its k-th. -/
theorem RowAt.u64 {ns : List Nat} (h : RowAt W t g c (ns.map fun (n : Nat) => Value.int .u64 (n : Int))) {k : Nat} (hk : k < ns.length) : W.cell? ⟨g, k, none⟩ = some (.int .u64 (ns.getD k 0 : Nat)) := by
  rw [h.cell (by simpa using hk)]
  simp [List.getElem?_eq_getElem hk]

/-- A row of truths, its k-th. -/
theorem RowAt.bool {bs : List Bool} (h : RowAt W t g c (bs.map Value.bool)) {k : Nat} (hk : k < bs.length) : W.cell? ⟨g, k, none⟩ = some (.bool (bs.getD k false)) := by
  rw [h.cell (by simpa using hk)]
  simp [List.getElem?_eq_getElem hk]

end
end Go.Proofs.Ytdgklodhgbbdjaa
