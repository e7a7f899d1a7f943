/- Three rows of the call's own, and the block that holds them. -/
import Derived.Test.YthchnjimhcjagaaSlotE
namespace Go.Proofs.Ythchnjimhcjagaa
set_option linter.unusedVariables false
open Go Go.RowKit

/-- Two rows do not lie in one block. -/
def Apart (a b : Option Nat) : Prop := ∀ k, a = some k → b ≠ some k
theorem Apart.symm {a b : Option Nat} (h : Apart a b) : Apart b a := fun k hk e => h k e hk

theorem Laid.grown {W W' : World} {g : Nat} {t : TypeId} {cs : Array Value} {row : Option Nat} (h : Laid W g t cs) (hg : W.grownBy W' row) (hr : row ≠ some g) : Laid W' g t cs := (hg.block g h.lt (Ne.symm hr)).trans h

/-- The rows, block L ahead of which nothing of theirs lies; w: the world at the start, B its size. -/
def R3 (w : World) (L : Nat) (ve vw vs : Value) (es ps ss : List Nat) (W : World) : Prop :=
  (Row W 36 ve (U es) ∧ Row W 36 vw (U ps) ∧ Row W 36 vs (U ss)) ∧
  (ve.ownBlock ≠ some L ∧ vw.ownBlock ≠ some L ∧ vs.ownBlock ≠ some L) ∧
  (Apart ve.ownBlock vw.ownBlock ∧ Apart ve.ownBlock vs.ownBlock ∧ Apart vw.ownBlock vs.ownBlock) ∧
  ((∀ b, ve.ownBlock = some b → w.heap.size ≤ b) ∧ (∀ b, vw.ownBlock = some b → w.heap.size ≤ b) ∧ (∀ b, vs.ownBlock = some b → w.heap.size ≤ b)) ∧
  Below w.heap.size w W ∧ L < W.heap.size ∧ w.heap.size ≤ L

section
variable {w W W' : World} {L : Nat} {ve vw vs : Value} {es ps ss : List Nat}

theorem R3.alloc (h : R3 w L ve vw vs es ps ss W) (o : Obj) : R3 w L ve vw vs es ps ss (W.alloc o) := by
  obtain ⟨⟨h1, h2, h3⟩, h4, h5, h6, h7, h8, h9⟩ := h
  exact ⟨⟨h1.alloc o, h2.alloc o, h3.alloc o⟩, h4, h5, h6, h7.alloc h7.size o, by rw [World.size_alloc]; omega, h9⟩

theorem R3.drewN (h : R3 w L ve vw vs es ps ss W) (n : Nat) : R3 w L ve vw vs es ps ss (W.drewN n) := by
  obtain ⟨h1, h4, h5, h6, h7, h8, h9⟩ := h
  exact ⟨h1, h4, h5, h6, below_drewN h7 n, h8, h9⟩

theorem R3.drew (h : R3 w L ve vw vs es ps ss W) : R3 w L ve vw vs es ps ss W.drew := by
  obtain ⟨h1, h4, h5, h6, h7, h8, h9⟩ := h
  exact ⟨h1, h4, h5, h6, h7.trans ⟨rfl, rfl, rfl, Nat.le_refl _, fun _ _ => rfl⟩, h8, h9⟩

theorem R3.store (h : R3 w L ve vw vs es ps ss W) (i : Nat) (u : Value) : R3 w L ve vw vs es ps ss (W.setCell ⟨L, i, none⟩ u) := by
  obtain ⟨⟨h1, h2, h3⟩, ⟨a1, a2, a3⟩, h5, h6, h7, h8, h9⟩ := h
  exact ⟨⟨h1.far (p := ⟨L, i, none⟩) a1 u, h2.far (p := ⟨L, i, none⟩) a2 u, h3.far (p := ⟨L, i, none⟩) a3 u⟩, ⟨a1, a2, a3⟩, h5, h6, h7.setCell (p := ⟨L, i, none⟩) h9 u, by rw [World.size_setCell]; exact h8, h9⟩

theorem grown_below {row : Option Nat} (h : Below w.heap.size w W) (hg : W.grownBy W' row) (hr : ∀ b, row = some b → w.heap.size ≤ b) : Below w.heap.size w W' :=
  h.trans ⟨hg.os, hg.tape, hg.output, hg.size, fun k hk => hg.block k (Nat.lt_of_lt_of_le hk h.size) (fun e => by have := hr k e.symm; omega)⟩

theorem R3.push_e {g n cap u : Nat} (h : R3 w L ve vw vs es ps ss W) (hr : Row W' 36 (.slice (some ⟨g, 0, none⟩) n cap) (U es ++ [.int .u64 (u : Int)])) (hg : W.grownBy W' ve.ownBlock) (hor : ve.ownBlock = some g ∨ g = W.heap.size) :
    R3 w L (.slice (some ⟨g, 0, none⟩) n cap) vw vs (es ++ [u]) ps ss W' := by
  obtain ⟨⟨r0, r1, r2⟩, ⟨a0, a1, a2⟩, ⟨p1, p2, p3⟩, ⟨g0, g1, g2⟩, h7, h8, h9⟩ := h
  refine ⟨⟨?_, ?_, ?_⟩, ⟨?_, ?_, ?_⟩, ⟨?_, ?_, ?_⟩, ⟨?_, ?_, ?_⟩, grown_below h7 hg g0, Nat.lt_of_lt_of_le h8 hg.size, h9⟩
  · exact by rw [show U (es ++ [u]) = U es ++ [.int .u64 (u : Int)] by simp]; exact hr
  · exact r1.grown hg (fun hn e => by cases hk : vw.ownBlock with | none => exact hn hk | some k => exact (p1.symm) k hk (e ▸ hk))
  · exact r2.grown hg (fun hn e => by cases hk : vs.ownBlock with | none => exact hn hk | some k => exact (p2.symm) k hk (e ▸ hk))
  · exact fun e => by
      have e1 : g = L := Option.some.inj e
      rcases hor with h | h
      · exact a0 (h.trans (congrArg some e1))
      · omega
  · exact a1
  · exact a2
  · exact (show Apart (some g) vw.ownBlock from (fun k hk e => by
      cases hk
      rcases hor with h | h
      · exact (p1) _ h e
      · have := r1.lt _ e; omega))
  · exact (show Apart (some g) vs.ownBlock from (fun k hk e => by
      cases hk
      rcases hor with h | h
      · exact (p2) _ h e
      · have := r2.lt _ e; omega))
  · exact p3
  · exact fun b hb => by
      have e1 : g = b := Option.some.inj hb
      rcases hor with h | h
      · exact g0 _ (h.trans (congrArg some e1))
      · have := h7.size; omega
  · exact g1
  · exact g2

theorem R3.push_w {g n cap u : Nat} (h : R3 w L ve vw vs es ps ss W) (hr : Row W' 36 (.slice (some ⟨g, 0, none⟩) n cap) (U ps ++ [.int .u64 (u : Int)])) (hg : W.grownBy W' vw.ownBlock) (hor : vw.ownBlock = some g ∨ g = W.heap.size) :
    R3 w L ve (.slice (some ⟨g, 0, none⟩) n cap) vs es (ps ++ [u]) ss W' := by
  obtain ⟨⟨r0, r1, r2⟩, ⟨a0, a1, a2⟩, ⟨p1, p2, p3⟩, ⟨g0, g1, g2⟩, h7, h8, h9⟩ := h
  refine ⟨⟨?_, ?_, ?_⟩, ⟨?_, ?_, ?_⟩, ⟨?_, ?_, ?_⟩, ⟨?_, ?_, ?_⟩, grown_below h7 hg g1, Nat.lt_of_lt_of_le h8 hg.size, h9⟩
  · exact r0.grown hg (fun hn e => by cases hk : ve.ownBlock with | none => exact hn hk | some k => exact (p1) k hk (e ▸ hk))
  · exact by rw [show U (ps ++ [u]) = U ps ++ [.int .u64 (u : Int)] by simp]; exact hr
  · exact r2.grown hg (fun hn e => by cases hk : vs.ownBlock with | none => exact hn hk | some k => exact (p3.symm) k hk (e ▸ hk))
  · exact a0
  · exact fun e => by
      have e1 : g = L := Option.some.inj e
      rcases hor with h | h
      · exact a1 (h.trans (congrArg some e1))
      · omega
  · exact a2
  · exact (show Apart (some g) ve.ownBlock from (fun k hk e => by
      cases hk
      rcases hor with h | h
      · exact (p1.symm) _ h e
      · have := r0.lt _ e; omega)).symm
  · exact p2
  · exact (show Apart (some g) vs.ownBlock from (fun k hk e => by
      cases hk
      rcases hor with h | h
      · exact (p3) _ h e
      · have := r2.lt _ e; omega))
  · exact g0
  · exact fun b hb => by
      have e1 : g = b := Option.some.inj hb
      rcases hor with h | h
      · exact g1 _ (h.trans (congrArg some e1))
      · have := h7.size; omega
  · exact g2

theorem R3.push_s {g n cap u : Nat} (h : R3 w L ve vw vs es ps ss W) (hr : Row W' 36 (.slice (some ⟨g, 0, none⟩) n cap) (U ss ++ [.int .u64 (u : Int)])) (hg : W.grownBy W' vs.ownBlock) (hor : vs.ownBlock = some g ∨ g = W.heap.size) :
    R3 w L ve vw (.slice (some ⟨g, 0, none⟩) n cap) es ps (ss ++ [u]) W' := by
  obtain ⟨⟨r0, r1, r2⟩, ⟨a0, a1, a2⟩, ⟨p1, p2, p3⟩, ⟨g0, g1, g2⟩, h7, h8, h9⟩ := h
  refine ⟨⟨?_, ?_, ?_⟩, ⟨?_, ?_, ?_⟩, ⟨?_, ?_, ?_⟩, ⟨?_, ?_, ?_⟩, grown_below h7 hg g2, Nat.lt_of_lt_of_le h8 hg.size, h9⟩
  · exact r0.grown hg (fun hn e => by cases hk : ve.ownBlock with | none => exact hn hk | some k => exact (p2) k hk (e ▸ hk))
  · exact r1.grown hg (fun hn e => by cases hk : vw.ownBlock with | none => exact hn hk | some k => exact (p3) k hk (e ▸ hk))
  · exact by rw [show U (ss ++ [u]) = U ss ++ [.int .u64 (u : Int)] by simp]; exact hr
  · exact a0
  · exact a1
  · exact fun e => by
      have e1 : g = L := Option.some.inj e
      rcases hor with h | h
      · exact a2 (h.trans (congrArg some e1))
      · omega
  · exact p1
  · exact (show Apart (some g) ve.ownBlock from (fun k hk e => by
      cases hk
      rcases hor with h | h
      · exact (p2.symm) _ h e
      · have := r0.lt _ e; omega)).symm
  · exact (show Apart (some g) vw.ownBlock from (fun k hk e => by
      cases hk
      rcases hor with h | h
      · exact (p3.symm) _ h e
      · have := r1.lt _ e; omega)).symm
  · exact g0
  · exact g1
  · exact fun b hb => by
      have e1 : g = b := Option.some.inj hb
      rcases hor with h | h
      · exact g2 _ (h.trans (congrArg some e1))
      · have := h7.size; omega

end
end Go.Proofs.Ythchnjimhcjagaa
