/- Walk: works. -/
import Derived.Test.YthchnjimhcjagaaSlotJ
namespace Go.Proofs.Ythchnjimhcjagaa
set_option linter.unusedVariables false
open Go Go.RowKit

theorem FindAns.known {ws : List Nat} {bs : List Bool} {x p : Nat} {f : Bool} {e : Ending} (h : FindAns ws bs x e) (k : FallsTo ws bs x p f) : e = .returned (.tuple #[.int .u64 (p : Nat), .bool f]) := by
  obtain ⟨q, g, rfl, hq⟩ := h
  obtain ⟨rfl, rfl⟩ := hq.one k
  rfl

theorem Row.newU (w : World) (ns : List Nat) (h : ns.length < 1000000) : Row (w.alloc (.cells (U ns).toArray 36)) 36 (.slice (some ⟨w.heap.size, 0, none⟩) (U ns).length (U ns).length) (U ns) :=
  (RowAt.new w 36 (U ns) (Nat.le_of_succ_le (maxLen_big _ (by simpa using h)))).row

theorem Row.newB (w : World) (bs : List Bool) (h : bs.length < 1000000) : Row (w.alloc (.cells (bs.map Value.bool).toArray 4)) 4 (.slice (some ⟨w.heap.size, 0, none⟩) (bs.map Value.bool).length (bs.map Value.bool).length) (bs.map Value.bool) :=
  (RowAt.new w 4 (bs.map Value.bool) (Nat.le_of_succ_le (maxLen_big _ (by simpa using h)))).row

theorem PNew.yes {ws : List Nat} {bs : List Bool} {W : World} {e : Ending} (h : PNew ws bs W e) (h0 : NewE ws bs = 0) : ∃ g, e = .returned (.tuple #[.pointer (some ⟨g, 0, none⟩), .int .i64 0]) ∧ PLay W g ws bs := by
  rcases h with ⟨h, _⟩ | ⟨_, h⟩
  · exact absurd h0 h
  · exact h

set_option maxRecDepth 100000 in
set_option maxHeartbeats 1000000 in
theorem works_any (w : World) : Calls Try.prog 10 #[] w fun e w' => e = .returned (.bool true) ∧ Below w.heap.size w w' := by
  have hR1 : Row (w.alloc (.cells #[.int .u64 5, .int .u64 3, .int .u64 2] 36)) 36 (.slice (some ⟨w.heap.size, 0, none⟩) 3 3) (U [5, 3, 2]) := Row.newU w [5, 3, 2] (by decide)
  have hR2 : Row ((w.alloc (.cells #[.int .u64 5, .int .u64 3, .int .u64 2] 36)).alloc (.cells #[.bool true, .bool false, .bool true] 4)) 4 (.slice (some ⟨w.heap.size + 1, 0, none⟩) 3 3) ([true, false, true].map Value.bool) := by
    have := Row.newB (w.alloc (.cells #[.int .u64 5, .int .u64 3, .int .u64 2] 36)) [true, false, true] (by decide)
    rw [World.size_alloc] at this
    exact this
  have NW := Shut.mk (pnew_any _ _ [5, 3, 2] [true, false, true] _ (hR1.alloc (.cells #[.bool true, .bool false, .bool true] 4)) hR2 (by decide))
  have FN : Fine [5, 3, 2] [true, false, true] := newE_fine.1 (by decide)
  have B0 := Shut.mk (((Below.refl w.heap.size w).alloc (by simp) (.cells #[.int .u64 5, .int .u64 3, .int .u64 2] 36)).alloc (by simp) (.cells #[.bool true, .bool false, .bool true] 4))
  have F4 : FallsTo [5, 3, 2] [true, false, true] 4 0 true := by unfold FallsTo; decide
  have F5 : FallsTo [5, 3, 2] [true, false, true] 5 2 true := by unfold FallsTo; decide
  have F7 : FallsTo [5, 3, 2] [true, false, true] 7 0 false := by unfold FallsTo; decide
  have ES : RSumIs [5, 3, 2] [true, false, true] 1 = .tuple #[.int .u64 5, .bool true] := by simp [RSumIs, Pre]
  have ET : Pre [5, 3, 2] [true, false, true] (0 + 1 + 1 + 1) = 7 := by decide
  have FND : Shut (∀ g (W : World), PLay W g [5, 3, 2] [true, false, true] → (∀ x p f, FallsTo [5, 3, 2] [true, false, true] x p f → Calls Try.prog 14 #[.pointer (some ⟨g, 0, none⟩), .int .u64 x] W fun e w' => e = .returned (.tuple #[.int .u64 (p : Nat), .bool f]) ∧ Below W.heap.size W w') ∧
      (Calls Try.prog 16 #[.pointer (some ⟨g, 0, none⟩), .int .u64 1] W fun e w' => e = .returned (.tuple #[.int .u64 5, .bool true]) ∧ W = w') ∧
      (Calls Try.prog 12 #[.pointer (some ⟨g, 0, none⟩)] W fun e w' => e = .returned (.int .u64 7) ∧ Below W.heap.size W w')) :=
    ⟨fun g W h => ⟨fun x p f hf => (pfind_any g _ _ x W h FN).mono fun e w' ⟨a, b⟩ => ⟨a.known hf, b⟩, (psum_any g _ _ 1 W h FN (by decide)).mono fun e w' ⟨a, b⟩ => ⟨by rw [a, ES], b⟩, (ptotal_any g _ _ W h FN).mono fun e w' ⟨a, b⟩ => ⟨by rw [a]; simp only [List.length_cons, List.length_nil, ET]; rfl, b⟩⟩⟩
  have Y4 := Shut.mk F4
  have Y5 := Shut.mk F5
  have Y7 := Shut.mk F7
  have E0 : Shut (NewE [5, 3, 2] [true, false, true] = 0) := ⟨by decide⟩
  clear hR1 hR2 ES ET FN F4 F5 F7
  go_enter Try.func10, Try.ntmps10
  go_wp2_with fail
  refine (NW.out).mono ?_
  rintro e w1 ⟨hP, hb⟩
  obtain ⟨g, rfl, hL⟩ := hP.yes E0.out
  have B1 := Shut.mk (below3 B0.out (hb.mono (by simp)))
  have L1 := Shut.mk hL
  clear hP hb hL
  go_wp2_with fail
  refine ((FND.out g w1 L1.out).1 4 0 true Y4.out).mono ?_
  rintro e w2 ⟨rfl, hb⟩
  have B2 := Shut.mk (below3 B1.out hb)
  have L2 := Shut.mk (L1.out.below hb)
  clear hb
  go_wp2_with fail
  refine ((FND.out g w2 L2.out).1 5 2 true Y5.out).mono ?_
  rintro e w3 ⟨rfl, hb⟩
  have B3 := Shut.mk (below3 B2.out hb)
  have L3 := Shut.mk (L2.out.below hb)
  clear hb
  go_wp2_with fail
  refine ((FND.out g w3 L3.out).1 7 0 false Y7.out).mono ?_
  rintro e w4 ⟨rfl, hb⟩
  have B4 := Shut.mk (below3 B3.out hb)
  have L4 := Shut.mk (L3.out.below hb)
  clear hb
  go_wp2_with fail
  refine ((FND.out g w4 L4.out).2.1).mono ?_
  rintro e w5 ⟨rfl, rfl⟩
  go_wp2_with fail
  refine ((FND.out g w4 L4.out).2.2).mono ?_
  rintro e w6 ⟨rfl, hb⟩
  have B6 := Shut.mk (below3 B4.out hb)
  clear hb
  go_wp2_with fail
  go_ret
  exact ⟨rfl, B6.out⟩

end Go.Proofs.Ythchnjimhcjagaa
