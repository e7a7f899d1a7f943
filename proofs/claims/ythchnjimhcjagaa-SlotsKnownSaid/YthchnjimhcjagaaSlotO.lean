/- Arguments opened: a slice of structs of a number and a truth; a slice of numbers. -/
import Derived.Test.YthchnjimhcjagaaSlotK
import Derived.OpenShut
import Derived.Deep.Slices
import Derived.Deep.Fields
import Derived.ChangeSame
namespace Go.Proofs.Ythchnjimhcjagaa
set_option linter.unusedVariables false
open Go Go.RowKit Go.ChangeShapes Go.WideShapes Go.Deep

section
variable {H : Type} {enc : TypeId × Value → H} {P : Program} {w : World} {base : Nat} {spare : Nat → Bool} {held : Bool}
theorem open_slice_fields {t e : TypeId} {fs : Array Field} {fuel : Nat} {cs : List Value} {x : DataW H × List MemPlace} (ht : P.underlying t = some (.slice e)) (he : P.underlying e = some (.struct fs))
    (hone : oneCellFields P fs = true) (hC : P.cellsOf e = fs.size) (h : DataW.trod enc P w base spare held fuel t cs = some x) :
    (cs = [.slice none 0 0] ∧ x = (.nil, [])) ∨
    ∃ (a : Addr) (len cap m : Nat) (D : Nat → DataW H) (Pl : Nat → List MemPlace), cs = [.slice (some a) len cap] ∧ base ≤ a.block ∧ len ≤ cap ∧ cap ≤ maxLen ∧ m = (if spare a.block then cap else len) ∧
      x = (.slice ((List.range len).map D) ((List.range (m - len)).map fun j => D (len + j)), MemPlace.row a (m * fs.size) ++ (List.range m).flatMap Pl) ∧
      ∀ i, i < m → ∃ (ys : List (DataW H × List MemPlace)) (n : Nat), D i = .agg (ys.map (·.1)) ∧ Pl i = ys.flatMap (·.2) ∧ ys.length = fs.size ∧
        ∀ (j : Nat) (f : Field), fs[j]? = some f → ∃ (v : Value) (y : DataW H × List MemPlace), w.cell? (a.add (i * fs.size + j)) = some v ∧ ys[j]? = some y ∧ DataW.trod enc P w base spare held n f.type [v] = some y := by
  rcases open_slice ht h with h0 | ⟨a, len, cap, m, n, D, Pl, hcs, hb, hl, hm, hmm, hx, hi⟩
  · exact .inl h0
  · refine .inr ⟨a, len, cap, m, D, Pl, hcs, hb, hl, hm, hmm, by rw [hC] at hx; exact hx, fun i him => ?_⟩
    obtain ⟨cs', hc, ht'⟩ := hi i him
    rw [hC] at hc
    obtain ⟨ys, n', hn', hy, hlen, hyl, hf⟩ := DataW.trod_struct he ht'
    obtain ⟨_, hcl, hat⟩ := World.cells?_some hc
    simp only [Prod.mk.injEq] at hy
    refine ⟨ys, n', hy.1, hy.2, hyl, fun j f hj => ?_⟩
    obtain ⟨ho, hk⟩ := hone_of hone j f hj
    have hjl : j < fs.size := (Array.getElem?_eq_some_iff.1 hj).1
    have hcell := hat j hjl
    have hv : cs'[j]? = some (cs'[j]'(by omega)) := List.getElem?_eq_getElem (by omega)
    have h1 := hf j f hj
    rw [ho, hk] at h1
    have hone' : (cs'.drop j).take 1 = [cs'[j]'(by omega)] := by
      rw [List.drop_eq_getElem_cons (by omega)]
      rfl
    rw [hone'] at h1
    have hys : ys[j]? = some (ys[j]'(by omega)) := List.getElem?_eq_getElem (by omega)
    refine ⟨_, _, ?_, hys, h1.trans hys⟩
    rw [← Go.Deep.add_add, hcell, hv]
end

theorem lt_of_cell {W : World} {a : Addr} {v : Value} (h : W.cell? a = some v) : a.block < W.heap.size := by
  rcases Nat.lt_or_ge a.block W.heap.size with hl | hl
  · exact hl
  · simp [World.cell?, Array.getElem?_eq_none hl] at h

theorem u64_nat {n : Int} (h : (Lit.int .u64 n).wf = true) : ∃ x : Nat, n = (x : Int) ∧ x < 18446744073709551616 := by
  have := bounds_u64 h
  exact ⟨n.toNat, by omega, by omega⟩

/-- A list by its elements. -/
theorem list_by {α : Type} [Inhabited α] {n : Nat} {p : Nat → α → Prop} (h : ∀ i, i < n → ∃ x, p i x) (d : α) : ∃ l : List α, l.length = n ∧ ∀ i, i < n → p i (l.getD i d) := by
  obtain ⟨f, hf⟩ := choose_lt h
  refine ⟨(List.range n).map f, by simp, fun i hi => ?_⟩
  rw [List.getD_eq_getElem?_getD, List.getElem?_map, List.getElem?_range hi]
  exact hf i hi

theorem open_rows {H : Type} {enc : TypeId × Value → H} {W : World} {r : Reach} {b0 : Nat} {v : Value} {d : DataW H} {p : List MemPlace} (hv : Value.okWide Try.prog W r b0 22 v)
    (h : DataW.Trod enc Try.prog W 0 (fun _ => true) true 22 v d p) :
    ∃ (A : Option Addr) (n c : Nat) (ws : List Nat) (bs : List Bool), v = .slice A n c ∧ Rows2 W A ws bs ∧ ws.length = n ∧ n ≤ 9223372036854775807 ∧ ∀ x ∈ ws, x < 18446744073709551616 := by
  obtain ⟨a, len, cap, rfl⟩ := okWide_slice Try.underlying22 hv
  obtain ⟨fuel, hf⟩ := h
  rcases open_slice_fields Try.underlying22 Try.underlying43 (by kernel_rfl) (by kernel_rfl) hf with ⟨h0, _⟩ | ⟨a', len', cap', m, D, Pl, h0, _, hl, hm, hmm, _, hi⟩
  · simp [Value.cells] at h0
    obtain ⟨rfl, rfl, rfl⟩ := h0
    exact ⟨none, 0, 0, [], [], rfl, ⟨rfl, (fun k hk => by cases hk)⟩, rfl, by decide, (fun x hx => by cases hx)⟩
  · simp [Value.cells] at h0
    obtain ⟨rfl, rfl, rfl⟩ := h0
    rw [if_pos rfl] at hmm
    subst hmm
    have each : ∀ i, i < len → ∃ q : Nat × Bool, q.1 < 18446744073709551616 ∧ W.cell? (a'.add (i * 2)) = some (.int .u64 (q.1 : Nat)) ∧ W.cell? (a'.add (i * 2 + 1)) = some (.bool q.2) := by
      intro i hil
      obtain ⟨ys, n, _, _, _, hq⟩ := hi i (by omega)
      obtain ⟨v0, y0, hc0, _, ht0⟩ := hq 0 _ rfl
      obtain ⟨v1, y1, hc1, _, ht1⟩ := hq 1 _ rfl
      obtain ⟨z, hz, _, wf⟩ := DataW.trod_int Try.underlying36 ht0
      obtain ⟨b, hb, _⟩ := DataW.trod_bool Try.underlying4 ht1
      obtain ⟨x, rfl, hx⟩ := u64_nat wf
      injection hz with hz
      injection hb with hb
      subst hz hb
      exact ⟨(x, b), hx, hc0, hc1⟩
    obtain ⟨l, hll, hl2⟩ := list_by each (0, false)
    refine ⟨some a', len, _, l.map (·.1), l.map (·.2), rfl, ⟨by simp, fun k hk => ?_⟩, by simp [hll], ?_, ?_⟩
    · have hk' : k < l.length := by simpa using hk
      obtain ⟨_, h1, h2⟩ := hl2 k (by omega)
      have e1 : (l.map (·.1)).getD k 0 = (l.getD k (0, false)).1 := by simp [List.getElem?_eq_getElem hk']
      have e2 : (l.map (·.2)).getD k false = (l.getD k (0, false)).2 := by simp [List.getElem?_eq_getElem hk']
      rw [e1, e2]
      refine ⟨a', rfl, ?_, h1, h2⟩
      have := lt_of_cell h1
      rwa [block_of_add] at this
    · have : maxLen = 9223372036854775807 := by decide +kernel
      omega
    · intro x hx
      obtain ⟨q, hq, rfl⟩ := List.mem_map.1 hx
      obtain ⟨i, hi', rfl⟩ := List.getElem_of_mem hq
      have := (hl2 i (by omega)).1
      simpa [List.getElem?_eq_getElem hi'] using this

theorem rows_cap {H : Type} {enc : TypeId × Value → H} {W : World} {A : Option Addr} {n c : Nat} {d : DataW H} {p : List MemPlace} (h : DataW.Trod enc Try.prog W 0 (fun _ => true) true 22 (.slice A n c) d p) : n ≤ c := by
  obtain ⟨fuel, hf⟩ := h
  rcases open_slice_fields Try.underlying22 Try.underlying43 (by kernel_rfl) (by kernel_rfl) hf with ⟨h0, _⟩ | ⟨a', len', cap', m, D, Pl, h0, _, hl, hm, hmm, _, hi⟩
  · simp [Value.cells] at h0
    omega
  · simp [Value.cells] at h0
    omega

theorem open_rowsC {H : Type} {enc : TypeId × Value → H} {W : World} {r : Reach} {b0 : Nat} {v : Value} {d : DataW H} {p : List MemPlace} (hv : Value.okWide Try.prog W r b0 22 v)
    (h : DataW.Trod enc Try.prog W 0 (fun _ => true) true 22 v d p) :
    ∃ (A : Option Addr) (n c : Nat) (ws : List Nat) (bs : List Bool), v = .slice A n c ∧ Rows2 W A ws bs ∧ ws.length = n ∧ n ≤ 9223372036854775807 ∧ (∀ x ∈ ws, x < 18446744073709551616) ∧ n ≤ c := by
  obtain ⟨A, n, c, ws, bs, rfl, h1, h2, h3, h4⟩ := open_rows hv h
  exact ⟨A, n, c, ws, bs, rfl, h1, h2, h3, h4, rows_cap h⟩

/-- A slice of numbers that came in. -/
def Nums (w : World) (A : Option Addr) (xs : List Nat) : Prop :=
  ∀ k, k < xs.length → ∃ ad, A = some ad ∧ ad.block < w.heap.size ∧ w.cell? (ad.add k) = some (.int .u64 (xs.getD k 0 : Nat))

theorem open_nums {H : Type} {enc : TypeId × Value → H} {W : World} {r : Reach} {b0 : Nat} {v : Value} {d : DataW H} {p : List MemPlace} (hv : Value.okWide Try.prog W r b0 23 v)
    (h : DataW.Trod enc Try.prog W 0 (fun _ => true) true 23 v d p) :
    ∃ (A : Option Addr) (n c : Nat) (xs : List Nat), v = .slice A n c ∧ Nums W A xs ∧ xs.length = n ∧ n ≤ 9223372036854775807 ∧ ∀ x ∈ xs, x < 18446744073709551616 := by
  obtain ⟨a, len, cap, rfl⟩ := okWide_slice Try.underlying23 hv
  obtain ⟨fuel, hf⟩ := h
  rcases open_ints Try.underlying23 Try.underlying36 (by kernel_rfl) hf with ⟨h0, _⟩ | ⟨a', len', cap', zs, h0, _, hl, hm, hzl, _, hi, hw⟩
  · simp [Value.cells] at h0
    obtain ⟨rfl, rfl, rfl⟩ := h0
    exact ⟨none, 0, 0, [], rfl, (fun k hk => by cases hk), rfl, by decide, (fun x hx => by cases hx)⟩
  · simp [Value.cells] at h0
    obtain ⟨rfl, rfl, rfl⟩ := h0
    rw [if_pos rfl] at hzl
    have each : ∀ i, i < len → ∃ q : Nat, q < 18446744073709551616 ∧ W.cell? (a'.add i) = some (.int .u64 (q : Nat)) := by
      intro i hil
      have hc := hi i (by omega)
      obtain ⟨x, e, hx⟩ := u64_nat (hw (zs.getD i 0) (by rw [List.getD_eq_getElem?_getD, List.getElem?_eq_getElem (by omega)]; exact List.getElem_mem _))
      rw [e] at hc
      exact ⟨x, hx, hc⟩
    obtain ⟨l, hll, hl2⟩ := list_by each 0
    refine ⟨some a', len, _, l, rfl, fun k hk => ?_, hll, ?_, ?_⟩
    · have h1 := (hl2 k (by omega)).2
      refine ⟨a', rfl, ?_, h1⟩
      have := lt_of_cell h1
      rwa [block_of_add] at this
    · have : maxLen = 9223372036854775807 := by decide +kernel
      omega
    · intro x hx
      obtain ⟨i, hi', rfl⟩ := List.getElem_of_mem hx
      have := (hl2 i (by omega)).1
      simpa [List.getElem?_eq_getElem hi'] using this

end Go.Proofs.Ythchnjimhcjagaa
