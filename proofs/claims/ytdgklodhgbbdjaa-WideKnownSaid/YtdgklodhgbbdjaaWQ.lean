/- Walks: Cmp; BitLen and Low of 512 bits. -/
import Derived.Test.YtdgklodhgbbdjaaWP
import Derived.Laws.CopyOwn
namespace Go.Proofs.Ytdgklodhgbbdjaa
set_option linter.unusedVariables false
set_option linter.unusedSimpArgs false
open Go Go.RowKit Go.Shelf

set_option maxRecDepth 100000 in
set_option maxHeartbeats 1000000 in
theorem cmp256_any (x0 x1 x2 x3 y0 y1 y2 y3 : Nat) (r : Int) (hr : r = cmpTo [x0, x1, x2, x3] [y0, y1, y2, y3] 4) (w : World) :
    Calls Try.prog 19 #[.agg #[.int .u64 x0, .int .u64 x1, .int .u64 x2, .int .u64 x3], .agg #[.int .u64 y0, .int .u64 y1, .int .u64 y2, .int .u64 y3]] w fun e w' => e = .returned (.int .i64 r) ∧ Below w.heap.size w w' := by
  have RX' := (RowAt.arr w 24 [x0, x1, x2, x3] (show 4 < 1000000 by decide)).alloc (.cells #[.int .u64 y0, .int .u64 y1, .int .u64 y2, .int .u64 y3] 24)
  have RY' := RowAt.arr (w.alloc (.cells #[.int .u64 x0, .int .u64 x1, .int .u64 x2, .int .u64 x3] 24)) 24 [y0, y1, y2, y3] (show 4 < 1000000 by decide)
  simp only [World.size_alloc] at RX' RY'
  have RX : Shut (RowAt ((w.alloc (.cells #[.int .u64 x0, .int .u64 x1, .int .u64 x2, .int .u64 x3] 24)).alloc (.cells #[.int .u64 y0, .int .u64 y1, .int .u64 y2, .int .u64 y3] 24)) 24 w.heap.size 4 (U [x0, x1, x2, x3])) := ⟨RX'⟩
  have RY : Shut (RowAt ((w.alloc (.cells #[.int .u64 x0, .int .u64 x1, .int .u64 x2, .int .u64 x3] 24)).alloc (.cells #[.int .u64 y0, .int .u64 y1, .int .u64 y2, .int .u64 y3] 24)) 24 (w.heap.size + 1) 4 (U [y0, y1, y2, y3])) := ⟨RY'⟩
  have B0 := Shut.mk (((Below.refl w.heap.size w).alloc (Nat.le_refl _) (.cells #[.int .u64 x0, .int .u64 x1, .int .u64 x2, .int .u64 x3] 24)).alloc (by simp) (.cells #[.int .u64 y0, .int .u64 y1, .int .u64 y2, .int .u64 y3] 24))
  have CP := Shut.mk (compared_any 24 w.heap.size (w.heap.size + 1) 4 [x0, x1, x2, x3] [y0, y1, y2, y3] ((w.alloc (.cells #[.int .u64 x0, .int .u64 x1, .int .u64 x2, .int .u64 x3] 24)).alloc (.cells #[.int .u64 y0, .int .u64 y1, .int .u64 y2, .int .u64 y3] 24)).drew RX.out.drew RY.out.drew rfl rfl (by decide))
  rw [← hr] at CP
  clear RX' RY' hr
  go_enter Try.func19, Try.ntmps19
  go_wp2_with fail
  go_region_with (go_at_call 37; refine (CP.out).mono ?_; rintro e w1 ⟨rfl, hb1⟩)
  have BB := Shut.mk (B0.out.trans ((below_drewN (Below.refl w.heap.size ((w.alloc (.cells #[.int .u64 x0, .int .u64 x1, .int .u64 x2, .int .u64 x3] 24)).alloc (.cells #[.int .u64 y0, .int .u64 y1, .int .u64 y2, .int .u64 y3] 24))) 1).trans (hb1.mono (by simp only [World.size_drew, World.size_alloc]; omega))))
  clear hb1
  go_wp2_with fail
  go_ret
  exact ⟨rfl, BB.out⟩

set_option maxRecDepth 100000 in
set_option maxHeartbeats 1000000 in
theorem cmp512_any (x0 x1 x2 x3 x4 x5 x6 x7 y0 y1 y2 y3 y4 y5 y6 y7 : Nat) (r : Int) (hr : r = cmpTo [x0, x1, x2, x3, x4, x5, x6, x7] [y0, y1, y2, y3, y4, y5, y6, y7] 8) (w : World) :
    Calls Try.prog 21 #[.agg #[.int .u64 x0, .int .u64 x1, .int .u64 x2, .int .u64 x3, .int .u64 x4, .int .u64 x5, .int .u64 x6, .int .u64 x7], .agg #[.int .u64 y0, .int .u64 y1, .int .u64 y2, .int .u64 y3, .int .u64 y4, .int .u64 y5, .int .u64 y6, .int .u64 y7]] w fun e w' => e = .returned (.int .i64 r) ∧ Below w.heap.size w w' := by
  have RX' := (RowAt.arr w 37 [x0, x1, x2, x3, x4, x5, x6, x7] (show 8 < 1000000 by decide)).alloc (.cells #[.int .u64 y0, .int .u64 y1, .int .u64 y2, .int .u64 y3, .int .u64 y4, .int .u64 y5, .int .u64 y6, .int .u64 y7] 37)
  have RY' := RowAt.arr (w.alloc (.cells #[.int .u64 x0, .int .u64 x1, .int .u64 x2, .int .u64 x3, .int .u64 x4, .int .u64 x5, .int .u64 x6, .int .u64 x7] 37)) 37 [y0, y1, y2, y3, y4, y5, y6, y7] (show 8 < 1000000 by decide)
  simp only [World.size_alloc] at RX' RY'
  have RX : Shut (RowAt ((w.alloc (.cells #[.int .u64 x0, .int .u64 x1, .int .u64 x2, .int .u64 x3, .int .u64 x4, .int .u64 x5, .int .u64 x6, .int .u64 x7] 37)).alloc (.cells #[.int .u64 y0, .int .u64 y1, .int .u64 y2, .int .u64 y3, .int .u64 y4, .int .u64 y5, .int .u64 y6, .int .u64 y7] 37)) 37 w.heap.size 8 (U [x0, x1, x2, x3, x4, x5, x6, x7])) := ⟨RX'⟩
  have RY : Shut (RowAt ((w.alloc (.cells #[.int .u64 x0, .int .u64 x1, .int .u64 x2, .int .u64 x3, .int .u64 x4, .int .u64 x5, .int .u64 x6, .int .u64 x7] 37)).alloc (.cells #[.int .u64 y0, .int .u64 y1, .int .u64 y2, .int .u64 y3, .int .u64 y4, .int .u64 y5, .int .u64 y6, .int .u64 y7] 37)) 37 (w.heap.size + 1) 8 (U [y0, y1, y2, y3, y4, y5, y6, y7])) := ⟨RY'⟩
  have B0 := Shut.mk (((Below.refl w.heap.size w).alloc (Nat.le_refl _) (.cells #[.int .u64 x0, .int .u64 x1, .int .u64 x2, .int .u64 x3, .int .u64 x4, .int .u64 x5, .int .u64 x6, .int .u64 x7] 37)).alloc (by simp) (.cells #[.int .u64 y0, .int .u64 y1, .int .u64 y2, .int .u64 y3, .int .u64 y4, .int .u64 y5, .int .u64 y6, .int .u64 y7] 37))
  have CP := Shut.mk (compared_any 37 w.heap.size (w.heap.size + 1) 8 [x0, x1, x2, x3, x4, x5, x6, x7] [y0, y1, y2, y3, y4, y5, y6, y7] ((w.alloc (.cells #[.int .u64 x0, .int .u64 x1, .int .u64 x2, .int .u64 x3, .int .u64 x4, .int .u64 x5, .int .u64 x6, .int .u64 x7] 37)).alloc (.cells #[.int .u64 y0, .int .u64 y1, .int .u64 y2, .int .u64 y3, .int .u64 y4, .int .u64 y5, .int .u64 y6, .int .u64 y7] 37)).drew RX.out.drew RY.out.drew rfl rfl (by decide))
  rw [← hr] at CP
  clear RX' RY' hr
  go_enter Try.func21, Try.ntmps21
  go_wp2_with fail
  go_region_with (go_at_call 37; refine (CP.out).mono ?_; rintro e w1 ⟨rfl, hb1⟩)
  have BB := Shut.mk (B0.out.trans ((below_drewN (Below.refl w.heap.size ((w.alloc (.cells #[.int .u64 x0, .int .u64 x1, .int .u64 x2, .int .u64 x3, .int .u64 x4, .int .u64 x5, .int .u64 x6, .int .u64 x7] 37)).alloc (.cells #[.int .u64 y0, .int .u64 y1, .int .u64 y2, .int .u64 y3, .int .u64 y4, .int .u64 y5, .int .u64 y6, .int .u64 y7] 37))) 1).trans (hb1.mono (by simp only [World.size_drew, World.size_alloc]; omega))))
  clear hb1
  go_wp2_with fail
  go_ret
  exact ⟨rfl, BB.out⟩

set_option maxRecDepth 100000 in
theorem bitlen512_any (x0 x1 x2 x3 x4 x5 x6 x7 : Nat) (w : World) (hu : ∀ x ∈ [x0, x1, x2, x3, x4, x5, x6, x7], x < 18446744073709551616) :
    Calls Try.prog 24 #[.agg #[.int .u64 x0, .int .u64 x1, .int .u64 x2, .int .u64 x3, .int .u64 x4, .int .u64 x5, .int .u64 x6, .int .u64 x7]] w fun e w' => e = .returned (.int .i64 (sizeTo [x0, x1, x2, x3, x4, x5, x6, x7] 8 : Nat)) ∧ Below w.heap.size w w' := by
  have SZ := Shut.mk (size_any 37 w.heap.size [x0, x1, x2, x3, x4, x5, x6, x7] 8 8 _ (RowAt.arr w 37 [x0, x1, x2, x3, x4, x5, x6, x7] (show 8 < 1000000 by decide)) rfl (by decide) hu)
  have B0 := Shut.mk ((Below.refl w.heap.size w).alloc (Nat.le_refl _) (.cells #[.int .u64 x0, .int .u64 x1, .int .u64 x2, .int .u64 x3, .int .u64 x4, .int .u64 x5, .int .u64 x6, .int .u64 x7] 37))
  clear hu
  go_enter Try.func24, Try.ntmps24
  go_wp2_with fail
  refine (SZ.out).mono ?_
  rintro e w1 ⟨rfl, rfl⟩
  go_wp2_with fail
  go_ret
  exact ⟨rfl, B0.out⟩

theorem low_cell {W : World} {t g : Nat} {x0 x1 x2 x3 x4 x5 x6 x7 : Nat} (h : RowAt W t g 8 (U [x0, x1, x2, x3, x4, x5, x6, x7])) {j : Nat} {v : Value} (hv : (U [x0, x1, x2, x3])[j]? = some v) : W.drew.cell? ((⟨g, 0, none⟩ : Addr).add j) = some v := by
  have hj : j < 4 := by
    have := (List.getElem?_eq_some_iff.1 hv).1
    simpa using this
  have e : (⟨g, 0, none⟩ : Addr).add j = ⟨g, j, none⟩ := by
    unfold Addr.add
    by_cases h : j = 0
    · rw [if_pos h, h]
    · rw [if_neg h, Nat.zero_add]
  rw [e]
  have := h.drew.cell (k := j) (show j < 8 by omega)
  rw [this, ← hv]
  match j, hj with
  | 0, _ => rfl
  | 1, _ => rfl
  | 2, _ => rfl
  | 3, _ => rfl

set_option maxRecDepth 100000 in
set_option maxHeartbeats 1000000 in
theorem low_any (x0 x1 x2 x3 x4 x5 x6 x7 : Nat) (w : World) :
    Calls Try.prog 18 #[.agg #[.int .u64 x0, .int .u64 x1, .int .u64 x2, .int .u64 x3, .int .u64 x4, .int .u64 x5, .int .u64 x6, .int .u64 x7]] w fun e w' => e = .returned (.tuple #[.agg #[.int .u64 x0, .int .u64 x1, .int .u64 x2, .int .u64 x3], .bool (!decide ([x4, x5, x6, x7] = [0, 0, 0, 0]))]) ∧ Below w.heap.size w w' := by
  have RX' := (RowAt.arr w 37 [x0, x1, x2, x3, x4, x5, x6, x7] (show 8 < 1000000 by decide)).alloc (.cells #[.int .u64 0, .int .u64 0, .int .u64 0, .int .u64 0] 24)
  have RX : Shut (RowAt ((w.alloc (.cells #[.int .u64 x0, .int .u64 x1, .int .u64 x2, .int .u64 x3, .int .u64 x4, .int .u64 x5, .int .u64 x6, .int .u64 x7] 37)).alloc (.cells #[.int .u64 0, .int .u64 0, .int .u64 0, .int .u64 0] 24)) 37 w.heap.size 8 (U [x0, x1, x2, x3, x4, x5, x6, x7])) := ⟨RX'⟩
  have RZ' := RowAt.arr (w.alloc (.cells #[.int .u64 x0, .int .u64 x1, .int .u64 x2, .int .u64 x3, .int .u64 x4, .int .u64 x5, .int .u64 x6, .int .u64 x7] 37)) 24 [0, 0, 0, 0] (by decide)
  rw [World.size_alloc] at RZ'
  have RZ : Shut (RowAt ((w.alloc (.cells #[.int .u64 x0, .int .u64 x1, .int .u64 x2, .int .u64 x3, .int .u64 x4, .int .u64 x5, .int .u64 x6, .int .u64 x7] 37)).alloc (.cells #[.int .u64 0, .int .u64 0, .int .u64 0, .int .u64 0] 24)) 24 (w.heap.size + 1) 4 (U [0, 0, 0, 0])) := ⟨RZ'⟩
  clear RX' RZ'
  obtain ⟨z, hz⟩ : ∃ z : Bool, z = decide ([x4, x5, x6, x7] = [0, 0, 0, 0]) := ⟨_, rfl⟩
  have EQ : ∀ W : World, (Op.equalIn 10000 24 (.agg #[.int .u64 x4, .int .u64 x5, .int .u64 x6, .int .u64 x7]) (.agg #[.int .u64 0, .int .u64 0, .int .u64 0, .int .u64 0])).run Try.prog W = .ok z W := fun W => by
    rw [hz]; exact run_eq_arr 24 4 Try.underlying24 [x4, x5, x6, x7] [0, 0, 0, 0] rfl rfl 9998 W
  rw [← hz]
  have ARR : ∀ W : World, (Instr.arrayAt 24 (.slice (some ⟨w.heap.size, 4, none⟩) 4 4)).run Try.prog W = .ok (.pointer (some ⟨w.heap.size, 4, none⟩)) W := fun W => by simp [Instr.arrayAt, run_underlying Try.underlying24]
  have B0 := Shut.mk (((Below.refl w.heap.size w).alloc (Nat.le_refl _) (.cells #[.int .u64 x0, .int .u64 x1, .int .u64 x2, .int .u64 x3, .int .u64 x4, .int .u64 x5, .int .u64 x6, .int .u64 x7] 37)).alloc (by simp) (.cells #[.int .u64 0, .int .u64 0, .int .u64 0, .int .u64 0] 24))
  have HG : Shut (((w.alloc (.cells #[.int .u64 x0, .int .u64 x1, .int .u64 x2, .int .u64 x3, .int .u64 x4, .int .u64 x5, .int .u64 x6, .int .u64 x7] 37)).alloc (.cells #[.int .u64 0, .int .u64 0, .int .u64 0, .int .u64 0] 24)).drew.heap[w.heap.size + 1]? = some (.cells (U [0, 0, 0, 0]).toArray 24 (0, 0))) := ⟨by have := heap_alloc_new (w.alloc (.cells #[.int .u64 x0, .int .u64 x1, .int .u64 x2, .int .u64 x3, .int .u64 x4, .int .u64 x5, .int .u64 x6, .int .u64 x7] 37)) (.cells #[.int .u64 0, .int .u64 0, .int .u64 0, .int .u64 0] 24); rw [World.size_alloc] at this; exact this⟩
  clear hz
  go_enter Try.func18, Try.ntmps18
  go_wp2_with fail
  refine wp_region_till (fun _ => True) [] (by kernel_rfl) trivial (fun _ => ?_)
  refine wpAnyT_take (i := 0) (v := ?_) rfl (by kernel_rfl) (by kernel_rfl) (by kernel_rfl) (by kernel_rfl) (fun _ _ _ h => h) (fun _ => trivial) (Or.inl ⟨by rfl, ?_⟩) ?_
  rotate_left
  · (intro W1 _; go_simp <;> with_reducible rfl)
  try simp only [Act.put, List.setIfInBounds_toArray, List.set_cons_zero, List.set_cons_succ]
  refine wpAnyT_take (i := 1) (v := ?_) rfl (by kernel_rfl) (by kernel_rfl) (by kernel_rfl) (by kernel_rfl) (fun _ _ _ h => h) (fun _ => trivial) (Or.inl ⟨by rfl, ?_⟩) ?_
  rotate_left
  · (intro W1 _; go_simp <;> with_reducible rfl)
  try simp only [Act.put, List.setIfInBounds_toArray, List.set_cons_zero, List.set_cons_succ]
  refine wpAnyT_ready (rs := [2]) (by kernel_rfl) (by simp) ?_
  refine AllReadyT.cons rfl (fun K hK => ?_) AllReadyT.nil
  refine step_copy_splice rfl (.tmp 4) (.tmp 5) 28 28 rfl 22 Try.underlying28 (by kernel_rfl) (some ⟨w.heap.size + 1, 0, none⟩) (some ⟨w.heap.size, 0, none⟩) 4 4 8 8 rfl rfl (w.heap.size + 1) 0 (U [0, 0, 0, 0]) 24 HG.out (U [x0, x1, x2, x3]) rfl (fun _ => ⟨rfl, ⟨w.heap.size, 0, none⟩, rfl, fun j v hv => low_cell RX.out hv⟩) (show 0 + 4 ≤ 4 by decide) (fun v hv => by simp at hv; rcases hv with rfl | rfl | rfl | rfl <;> rfl) (w.heap.size + 1) ((w.alloc (.cells #[.int .u64 x0, .int .u64 x1, .int .u64 x2, .int .u64 x3, .int .u64 x4, .int .u64 x5, .int .u64 x6, .int .u64 x7] 37)).alloc (.cells #[.int .u64 0, .int .u64 0, .int .u64 0, .int .u64 0] 24)).drew (Below.refl _ _) (Nat.le_refl _) ?_
  intro w1 hh hbl
  have RZ1 : Shut (RowAt w1 24 (w.heap.size + 1) 4 (U [x0, x1, x2, x3])) := ⟨⟨(U [x0, x1, x2, x3]).toArray, hh.out, (show 4 ≤ 4 by decide), Nat.le_of_succ_le (maxLen_big 4 (by decide)), rfl, rfl⟩⟩
  have RX1 : Shut (RowAt w1 37 w.heap.size 8 (U [x0, x1, x2, x3, x4, x5, x6, x7])) := ⟨RX.out.drew.of_block (hbl.block _ (by omega))⟩
  have B1 : Shut (Below w.heap.size w w1) := ⟨(below_drewN B0.out 1).trans (hbl.mono (by omega))⟩
  clear hh hbl
  refine hK.out _ _ (fun _ => trivial) (fun _ => ?_)
  clear hK K
  try simp only [Act.put, List.setIfInBounds_toArray, List.set_cons_zero, List.set_cons_succ]
  refine wpAnyT_done (by kernel_rfl) ?_ _
  simp only [List.getElem_toArray, List.getElem_cons_zero, List.getElem_cons_succ, List.setIfInBounds_toArray, List.set_cons_zero, List.set_cons_succ]
  obtain ⟨⟨a0, a1, a2, a3, a4, a5, a6, a7⟩, _⟩ := RX1.out.eight
  obtain ⟨⟨b0, b1, b2, b3⟩, z0, z1, z2, z3⟩ := RZ1.out.four
  go_wp2_with fail
  go_region
  go_wp2_with fail
  refine bodyPost_ret (v := .tuple #[.agg #[.int .u64 x0, .int .u64 x1, .int .u64 x2, .int .u64 x3], .bool (!z)]) (by simp [results, Try.results18, go_sem, b0, b1, b2, b3]) rfl ⟨rfl, ?_⟩
  exact below_drewN ((((B1.out.setCell (p := ⟨w.heap.size + 1, 0, none⟩) (by simp) _).setCell (p := ⟨w.heap.size + 1, 1, none⟩) (by simp) _).setCell (p := ⟨w.heap.size + 1, 2, none⟩) (by simp) _).setCell (p := ⟨w.heap.size + 1, 3, none⟩) (by simp) _) 1

end Go.Proofs.Ytdgklodhgbbdjaa
