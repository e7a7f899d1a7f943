/- Walks: what is asked of a layout. -/
import Derived.Test.YthchnjimhcjagaaSlotB
namespace Go.Proofs.Ythchnjimhcjagaa
set_option linter.unusedVariables false
open Go.RowKit

/-- A block is known whole. -/
def Laid (W : World) (g : Nat) (t : TypeId) (cs : Array Value) : Prop := W.heap[g]? = some (.cells cs t (0, 0))
theorem Laid.lt {W : World} {g : Nat} {t : TypeId} {cs : Array Value} (h : Laid W g t cs) : g < W.heap.size := (Array.getElem?_eq_some_iff.1 h).1
theorem Laid.cell {W : World} {g : Nat} {t : TypeId} {cs : Array Value} (h : Laid W g t cs) (i : Nat) : W.cell? ⟨g, i, none⟩ = cs[i]? := by
  simp [World.cell?, show W.heap[g]? = _ from h]
theorem Laid.frozen {W : World} {g : Nat} {t : TypeId} {cs : Array Value} (h : Laid W g t cs) (i : Nat) : W.frozen? ⟨g, i, none⟩ = false := by
  unfold Laid at h
  simp [World.frozen?, h]
theorem Laid.below {W W' : World} {g : Nat} {t : TypeId} {cs : Array Value} (h : Laid W g t cs) (hb : Below W.heap.size W W') : Laid W' g t cs := (hb.block _ h.lt).trans h
theorem Laid.new (W : World) (t : TypeId) (cs : Array Value) : Laid (W.alloc (.cells cs t)) W.heap.size t cs := heap_alloc_new W _
theorem Laid.alloc {W : World} {g : Nat} {t : TypeId} {cs : Array Value} (h : Laid W g t cs) (o : Obj) : Laid (W.alloc o) g t cs := (Below.heap_alloc W o g h.lt).trans h
theorem Laid.drewN {W : World} {g : Nat} {t : TypeId} {cs : Array Value} (h : Laid W g t cs) (n : Nat) : Laid (W.drewN n) g t cs := h
theorem Laid.set_ {W : World} {g : Nat} {t : TypeId} {cs : Array Value} (h : Laid W g t cs) (i : Nat) (u : Value) : Laid (W.setCell ⟨g, i, none⟩ u) g t (cs.setIfInBounds i u) := by
  unfold Laid at h ⊢
  simp [World.setCell, Array.getElem?_modify, h]
theorem Laid.far {W : World} {g : Nat} {t : TypeId} {cs : Array Value} (h : Laid W g t cs) {p : Addr} (hp : g ≠ p.block) (u : Value) : Laid (W.setCell p u) g t cs := (Below.heap_setCell W p u g hp).trans h

/-- Numbers lie in a block's head, whatever capacity the slice has. -/
def Sits (W : World) (v : Value) (ns : List Nat) : Prop := ∃ g c c', v = .slice (some ⟨g, 0, none⟩) ns.length c ∧ RowAt W 36 g c' (U ns)

theorem Sits.below {W W' : World} {v : Value} {ns : List Nat} (h : Sits W v ns) (hb : Below W.heap.size W W') : Sits W' v ns := by
  obtain ⟨g, c, c', h1, h2⟩ := h
  exact ⟨g, c, c', h1, h2.below hb⟩

/-- A layout: where the weights of those who signed end, who they are, and the sums. -/
def Lay (W : World) (g : Nat) (es ps ss : List Nat) : Prop :=
  ∃ ve vw vs : Value, Laid W g 49 #[ve, vw, vs, .func (.func 20) #[.agg #[ve, vw]] #[]] ∧
    Row W 36 ve (U es) ∧ Row W 36 vw (U ps) ∧ Sits W vs ss

theorem Lay.below {W W' : World} {g : Nat} {es ps ss : List Nat} (h : Lay W g es ps ss) (hb : Below W.heap.size W W') : Lay W' g es ps ss := by
  obtain ⟨ve, vw, vs, h1, h2, h3, h4⟩ := h
  exact ⟨ve, vw, vs, h1.below hb, h2.below hb, h3.below hb, h4.below hb⟩

theorem Row.some_ {W : World} {t : TypeId} {v : Value} {ns : List Nat} (h : Row W t v (U ns)) (h0 : 0 < ns.length) : ∃ g c, v = .slice (some ⟨g, 0, none⟩) ns.length c ∧ RowAt W t g c (U ns) := by
  rcases h.cases with ⟨rfl, e⟩ | ⟨g, c, rfl, hg⟩
  · have : ns = [] := by simpa using e
    subst this
    exact absurd h0 (by simp)
  · exact ⟨g, c, by simp, hg⟩

theorem len_any (g : Nat) (es ps ss : List Nat) (w : World) (h : Lay w g es ps ss) (h0 : 0 < ss.length) (h1 : ss.length < 1000000) :
    Calls Try.prog 11 #[.pointer (some ⟨g, 0, none⟩)] w fun e w' => e = .returned (.int .i64 (ss.length - 1 : Nat)) ∧ w = w' := by
  obtain ⟨ve, vw, vs, hl, _, _, hs⟩ := h
  obtain ⟨b, c, c0, rfl, _⟩ := hs
  have c2 := hl.cell 2
  simp at c2
  obtain ⟨n, hn⟩ : ∃ n, ss.length = n + 1 := ⟨ss.length - 1, by omega⟩
  rw [hn] at c2 ⊢
  rw [hn] at h1
  clear hn h0 hl
  rw [show n + 1 - 1 = n by omega]
  go_enter Try.func11, Try.ntmps11
  go_wp2_with fail
  go_ret
  exact ⟨by simp, rfl⟩

theorem total_any (g : Nat) (es ps ss : List Nat) (w : World) (h : Lay w g es ps ss) (h0 : 0 < ss.length) (h1 : ss.length < 1000000) :
    Calls Try.prog 12 #[.pointer (some ⟨g, 0, none⟩)] w fun e w' => e = .returned (.int .u64 (ss.getD (ss.length - 1) 0 : Nat)) ∧ Below w.heap.size w w' := by
  obtain ⟨ve, vw, vs, hl, _, _, hs⟩ := h
  obtain ⟨b, c, c0, rfl, hr⟩ := hs
  have c2 := hl.cell 2
  simp at c2
  have c3 := hr.u64 (k := ss.length - 1) (by omega)
  have B0 := Below.refl w.heap.size w
  obtain ⟨n, hn⟩ : ∃ n, ss.length = n + 1 := ⟨ss.length - 1, by omega⟩
  rw [hn] at c2 c3 ⊢
  rw [hn] at h1
  clear hn h0 hl hr
  rw [show n + 1 - 1 = n by omega] at c3 ⊢
  generalize ss.getD n 0 = x at *
  have hw : IntKind.i64.wrap (n : Int) = (n : Int) := by rw [IntKind.wrap_i64]; omega
  have hlt : (n : Int) < (n : Int) + 1 := by omega
  have hge : (0 : Int) ≤ (n : Int) := by omega
  go_enter Try.func12, Try.ntmps12
  go_wp2_with fail
  go_quiet (fail)
  go_wp2_with fail
  go_ret
  exact ⟨rfl, below_drewN B0 nq⟩

def SumIs (ss : List Nat) (x : Nat) : Value := if x < ss.length - 1 then .tuple #[.int .u64 (ss.getD x 0 : Nat), .bool true] else .tuple #[.int .u64 0, .bool false]

theorem sum_any (g : Nat) (es ps ss : List Nat) (x : Nat) (w : World) (h : Lay w g es ps ss) (h0 : 0 < ss.length) (h1 : ss.length < 1000000) (hx : x < 18446744073709551616) :
    Calls Try.prog 16 #[.pointer (some ⟨g, 0, none⟩), .int .u64 x] w fun e w' => e = .returned (SumIs ss x) ∧ w = w' := by
  have L := Shut.mk (len_any g es ps ss w h h0 h1)
  unfold SumIs
  obtain ⟨ve, vw, vs, hl, _, _, hs⟩ := h
  obtain ⟨b, c, c0, rfl, hr⟩ := hs
  have c2 := hl.cell 2
  simp at c2
  have C3 := Shut.mk (fun (h : x < ss.length - 1) => hr.u64 (k := x) (by omega))
  obtain ⟨n, hn⟩ : ∃ n, ss.length = n + 1 := ⟨ss.length - 1, by omega⟩
  rw [hn] at c2 C3 L ⊢
  rw [hn] at h1
  clear hn h0 hl hr
  rw [show n + 1 - 1 = n by omega] at C3 L ⊢
  by_cases h : x < n
  · have c3 := C3.out h
    rw [if_pos h]
    have h2 : ¬ (x : Int) ≥ (n : Int) := by omega
    have h3 : (x : Int) < (n : Int) + 1 := by omega
    generalize ss.getD x 0 = y at *
    go_enter Try.func16, Try.ntmps16
    go_wp2_with fail
    refine (L.out).mono ?_
    rintro e w1 ⟨rfl, rfl⟩
    go_wp2_with fail
    go_ret2
    exact ⟨rfl, rfl⟩
  · rw [if_neg h]
    have h2 : (x : Int) ≥ (n : Int) := by omega
    go_enter Try.func16, Try.ntmps16
    go_wp2_with fail
    refine (L.out).mono ?_
    rintro e w1 ⟨rfl, rfl⟩
    go_wp2_with fail
    go_ret2
    exact ⟨rfl, rfl⟩

/-- What is found: nobody, or the one whose weight ends first above the number. -/
def FindIs (es ps : List Nat) (x : Nat) (e : Ending) : Prop :=
  ∃ p : Nat, Above es x p ∧ e = .returned (.tuple #[.int .u64 (if p < es.length then ps.getD p 0 else 0 : Nat), .bool (decide (p < es.length))])

theorem find_any (g : Nat) (es ps ss : List Nat) (x : Nat) (w : World) (h : Lay w g es ps ss) (hp : ps.length = es.length) (h1 : es.length < 1000000) (hs : ∀ i j, i < j → j < es.length → es.getD i 0 < es.getD j 0) :
    Calls Try.prog 14 #[.pointer (some ⟨g, 0, none⟩), .int .u64 x] w fun e w' => FindIs es ps x e ∧ Below w.heap.size w w' := by
  obtain ⟨ve, vw, vs, hl, he, hw, _⟩ := h
  have SS := Shut.mk (search_any ve vw es x w he h1 hs)
  have c3 := hl.cell 3
  have c1 := hl.cell 1
  have hg := hl.lt
  simp at c3 c1
  have HR := Shut.mk (fun (h : 0 < ps.length) => hw.some_ h)
  have FI : Shut (∀ p, Above es x p → ∀ e, e = .returned (.tuple #[.int .u64 (if p < es.length then ps.getD p 0 else 0 : Nat), .bool (decide (p < es.length))]) → FindIs es ps x e) := ⟨fun p hp e he => ⟨p, hp, he⟩⟩
  clear he hs hl
  go_enter Try.func14, Try.ntmps14
  go_wp2_with fail
  refine (SS.out).mono ?_
  rintro e w1 ⟨⟨p, rfl, ha⟩, hb⟩
  have B1 := Shut.mk hb
  have d1 : w1.cell? ⟨g, 1, none⟩ = some vw := (hb.cell (p := ⟨g, 1, none⟩) hg).trans c1
  have HA := Shut.mk ha
  by_cases h : p < es.length
  · obtain ⟨b, c, rfl, hr⟩ := HR.out (by omega)
    have d2 : w1.cell? ⟨b, p, none⟩ = some (.int .u64 (ps.getD p 0 : Nat)) := (hb.cell (p := ⟨b, p, none⟩) hr.lt).trans (hr.u64 (by omega))
    have F := Shut.mk (FI.out p ha)
    have hd : decide (p < es.length) = true := decide_eq_true h
    rw [if_pos h, hd] at F
    rw [hd]
    have hpl : (p : Int) < (ps.length : Int) := by omega
    generalize ps.getD p 0 = y at *
    generalize ps.length = n at *
    clear hb ha hr hw hd
    go_wp2_with fail
    go_ret2
    exact ⟨F.out _ rfl, B1.out⟩
  · have F := Shut.mk (FI.out p ha)
    have hd : decide (p < es.length) = false := decide_eq_false h
    rw [if_neg h, hd] at F
    rw [hd]
    clear hb ha hw hd
    go_wp2_with fail
    go_ret2
    exact ⟨F.out _ rfl, B1.out⟩

end Go.Proofs.Ythchnjimhcjagaa
