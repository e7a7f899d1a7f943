/- Walks: Sub, Add. -/
import Derived.Test.YtdgklodhgbbdjaaWG
namespace Go.Proofs.Ytdgklodhgbbdjaa
set_option linter.unusedVariables false
set_option linter.unusedSimpArgs false
open Go Go.RowKit

theorem subOf_le (x y c : Nat) : (subOf x y c).2 ≤ 1 := by unfold subOf; simp only; split <;> omega
theorem addOf_le (x y c : Nat) (hc : c ≤ 1) (hx : x < 18446744073709551616) (hy : y < 18446744073709551616) : (addOf x y c).2 ≤ 1 := by unfold addOf; simp only; omega
theorem sub_do (x y c : Nat) (hc : c ≤ 1) (W : World) : Calls Try.prog 36 #[.int .u64 (x : Nat), .int .u64 (y : Nat), .int .u64 (c : Nat)] W fun e w' => e = .returned (.tuple #[.int .u64 ((subOf x y c).1 : Nat), .int .u64 ((subOf x y c).2 : Nat)]) ∧ W = w' := sub_any x y c _ _ hc rfl rfl W
theorem add_do (x y c : Nat) (hc : c ≤ 1) (W : World) : Calls Try.prog 35 #[.int .u64 (x : Nat), .int .u64 (y : Nat), .int .u64 (c : Nat)] W fun e w' => e = .returned (.tuple #[.int .u64 ((addOf x y c).1 : Nat), .int .u64 ((addOf x y c).2 : Nat)]) ∧ W = w' := add_any x y c _ _ hc rfl rfl W

theorem list8 {l : List Nat} (h : l.length = 8) : ∃ a b c d e f g i, l = [a, b, c, d, e, f, g, i] := by
  match l, h with
  | [a, b, c, d, e, f, g, i], _ => exact ⟨a, b, c, d, e, f, g, i, rfl⟩

theorem RowAt.eight {W : World} {t g : Nat} {a b c d e f i j : Nat} (h : RowAt W t g 8 (U [a, b, c, d, e, f, i, j])) :
    (W.cell? ⟨g, 0, none⟩ = some (.int .u64 (a : Nat)) ∧ W.cell? ⟨g, 1, none⟩ = some (.int .u64 (b : Nat)) ∧ W.cell? ⟨g, 2, none⟩ = some (.int .u64 (c : Nat)) ∧ W.cell? ⟨g, 3, none⟩ = some (.int .u64 (d : Nat)) ∧ W.cell? ⟨g, 4, none⟩ = some (.int .u64 (e : Nat)) ∧ W.cell? ⟨g, 5, none⟩ = some (.int .u64 (f : Nat)) ∧ W.cell? ⟨g, 6, none⟩ = some (.int .u64 (i : Nat)) ∧ W.cell? ⟨g, 7, none⟩ = some (.int .u64 (j : Nat))) ∧
    (W.frozen? ⟨g, 0, none⟩ = false ∧ W.frozen? ⟨g, 1, none⟩ = false ∧ W.frozen? ⟨g, 2, none⟩ = false ∧ W.frozen? ⟨g, 3, none⟩ = false ∧ W.frozen? ⟨g, 4, none⟩ = false ∧ W.frozen? ⟨g, 5, none⟩ = false ∧ W.frozen? ⟨g, 6, none⟩ = false ∧ W.frozen? ⟨g, 7, none⟩ = false) :=
  ⟨⟨h.u64 (k := 0) (show 0 < 8 by decide), h.u64 (k := 1) (show 1 < 8 by decide), h.u64 (k := 2) (show 2 < 8 by decide), h.u64 (k := 3) (show 3 < 8 by decide), h.u64 (k := 4) (show 4 < 8 by decide), h.u64 (k := 5) (show 5 < 8 by decide), h.u64 (k := 6) (show 6 < 8 by decide), h.u64 (k := 7) (show 7 < 8 by decide)⟩, h.frozen 0, h.frozen 1, h.frozen 2, h.frozen 3, h.frozen 4, h.frozen 5, h.frozen 6, h.frozen 7⟩

set_option maxRecDepth 100000 in
set_option maxHeartbeats 2000000 in
theorem sub256_any (x0 x1 x2 x3 y0 y1 y2 y3 : Nat) (rs : List Nat) (ov : Bool) (hrs : rs = fillOn [0, 0, 0, 0] (limbAt subOf [x0, x1, x2, x3] [y0, y1, y2, y3]) 4) (hov : ov = decide (carryAt subOf [x0, x1, x2, x3] [y0, y1, y2, y3] 4 ≠ 0)) (w : World) (hx : ∀ x ∈ [x0, x1, x2, x3], x < 18446744073709551616) (hy : ∀ x ∈ [y0, y1, y2, y3], x < 18446744073709551616) :
    Calls Try.prog 15 #[.agg #[.int .u64 x0, .int .u64 x1, .int .u64 x2, .int .u64 x3], .agg #[.int .u64 y0, .int .u64 y1, .int .u64 y2, .int .u64 y3]] w fun e w' => e = .returned (.tuple #[.agg (U rs).toArray, .bool ov]) ∧ Below w.heap.size w w' := by
  have RX' := ((RowAt.arr w 24 [x0, x1, x2, x3] (show 4 < 1000000 by decide)).alloc (.cells #[.int .u64 y0, .int .u64 y1, .int .u64 y2, .int .u64 y3] 24)).alloc (.cells #[.int .u64 0, .int .u64 0, .int .u64 0, .int .u64 0] 24)
  have RY' := (RowAt.arr (w.alloc (.cells #[.int .u64 x0, .int .u64 x1, .int .u64 x2, .int .u64 x3] 24)) 24 [y0, y1, y2, y3] (show 4 < 1000000 by decide)).alloc (.cells #[.int .u64 0, .int .u64 0, .int .u64 0, .int .u64 0] 24)
  have RZ' := RowAt.arr ((w.alloc (.cells #[.int .u64 x0, .int .u64 x1, .int .u64 x2, .int .u64 x3] 24)).alloc (.cells #[.int .u64 y0, .int .u64 y1, .int .u64 y2, .int .u64 y3] 24)) 24 [0, 0, 0, 0] (by decide)
  simp only [World.size_alloc] at RX' RY' RZ'
  have RX : Shut (RowAt (((w.alloc (.cells #[.int .u64 x0, .int .u64 x1, .int .u64 x2, .int .u64 x3] 24)).alloc (.cells #[.int .u64 y0, .int .u64 y1, .int .u64 y2, .int .u64 y3] 24)).alloc (.cells #[.int .u64 0, .int .u64 0, .int .u64 0, .int .u64 0] 24)) 24 w.heap.size 4 (U [x0, x1, x2, x3])) := ⟨RX'⟩
  have RY : Shut (RowAt (((w.alloc (.cells #[.int .u64 x0, .int .u64 x1, .int .u64 x2, .int .u64 x3] 24)).alloc (.cells #[.int .u64 y0, .int .u64 y1, .int .u64 y2, .int .u64 y3] 24)).alloc (.cells #[.int .u64 0, .int .u64 0, .int .u64 0, .int .u64 0] 24)) 24 (w.heap.size + 1) 4 (U [y0, y1, y2, y3])) := ⟨RY'⟩
  have RZ : Shut (RowAt (((w.alloc (.cells #[.int .u64 x0, .int .u64 x1, .int .u64 x2, .int .u64 x3] 24)).alloc (.cells #[.int .u64 y0, .int .u64 y1, .int .u64 y2, .int .u64 y3] 24)).alloc (.cells #[.int .u64 0, .int .u64 0, .int .u64 0, .int .u64 0] 24)) 24 (w.heap.size + 1 + 1) 4 (U [0, 0, 0, 0])) := ⟨RZ'⟩
  have B0 := Shut.mk ((((Below.refl w.heap.size w).alloc (Nat.le_refl _) (.cells #[.int .u64 x0, .int .u64 x1, .int .u64 x2, .int .u64 x3] 24)).alloc (by simp) (.cells #[.int .u64 y0, .int .u64 y1, .int .u64 y2, .int .u64 y3] 24)).alloc (by simp; omega) (.cells #[.int .u64 0, .int .u64 0, .int .u64 0, .int .u64 0] 24))
  have FD' : ∀ W : World, RowAt W 24 w.heap.size 4 (U [x0, x1, x2, x3]) → RowAt W 24 (w.heap.size + 1) 4 (U [y0, y1, y2, y3]) → RowAt W 24 (w.heap.size + 1 + 1) 4 (U [0, 0, 0, 0]) → _ :=
    fun W h1 h2 h3 => folded_any 36 subOf (.inl rfl) (fun x y c _ _ _ => subOf_le x y c) (fun x y c hc W => sub_do x y c hc W) 24 (w.heap.size + 1 + 1) w.heap.size (w.heap.size + 1) 4 w.heap.size [0, 0, 0, 0] [x0, x1, x2, x3] [y0, y1, y2, y3] W h3 h1 h2 rfl rfl rfl (by decide) (by omega) (by omega) (by omega) hx hy
  have FD := Shut.mk (FD' (((w.alloc (.cells #[.int .u64 x0, .int .u64 x1, .int .u64 x2, .int .u64 x3] 24)).alloc (.cells #[.int .u64 y0, .int .u64 y1, .int .u64 y2, .int .u64 y3] 24)).alloc (.cells #[.int .u64 0, .int .u64 0, .int .u64 0, .int .u64 0] 24)).drew RX.out.drew RY.out.drew RZ.out.drew)
  rw [← hov] at FD
  have hl : rs.length = 4 := by rw [hrs]; exact fillOn_len _ _ _
  rw [← hrs] at FD
  obtain ⟨o0, o1, o2, o3, ho⟩ := list4 hl
  rw [ho] at FD ⊢
  clear RX' RY' RZ' FD' hrs hov hl ho hx hy
  go_enter Try.func15, Try.ntmps15
  go_wp2_with fail
  go_region_with (go_at_call 34; refine (FD.out).mono ?_; rintro e w1 ⟨rfl, hr1, hb1⟩)
  have BB := Shut.mk (B0.out.trans ((below_drewN (Below.refl w.heap.size (((w.alloc (.cells #[.int .u64 x0, .int .u64 x1, .int .u64 x2, .int .u64 x3] 24)).alloc (.cells #[.int .u64 y0, .int .u64 y1, .int .u64 y2, .int .u64 y3] 24)).alloc (.cells #[.int .u64 0, .int .u64 0, .int .u64 0, .int .u64 0] 24))) 1).trans hb1))
  obtain ⟨⟨a0, a1, a2, a3⟩, z0, z1, z2, z3⟩ := hr1.four
  clear hr1 hb1
  go_wp2_with fail
  refine bodyPost_ret (v := .tuple #[.agg #[.int .u64 o0, .int .u64 o1, .int .u64 o2, .int .u64 o3], .bool ov]) (by simp [results, Try.results15, go_sem, a0, a1, a2, a3]) rfl ⟨rfl, ?_⟩
  exact ((((BB.out.setCell (p := ⟨w.heap.size + 1 + 1, 0, none⟩) (by simp; omega) _).setCell (p := ⟨w.heap.size + 1 + 1, 1, none⟩) (by simp; omega) _).setCell (p := ⟨w.heap.size + 1 + 1, 2, none⟩) (by simp; omega) _).setCell (p := ⟨w.heap.size + 1 + 1, 3, none⟩) (by simp; omega) _)

set_option maxRecDepth 100000 in
set_option maxHeartbeats 2000000 in
theorem add256_any (x0 x1 x2 x3 y0 y1 y2 y3 : Nat) (rs : List Nat) (ov : Bool) (hrs : rs = fillOn [0, 0, 0, 0] (limbAt addOf [x0, x1, x2, x3] [y0, y1, y2, y3]) 4) (hov : ov = decide (carryAt addOf [x0, x1, x2, x3] [y0, y1, y2, y3] 4 ≠ 0)) (w : World) (hx : ∀ x ∈ [x0, x1, x2, x3], x < 18446744073709551616) (hy : ∀ x ∈ [y0, y1, y2, y3], x < 18446744073709551616) :
    Calls Try.prog 13 #[.agg #[.int .u64 x0, .int .u64 x1, .int .u64 x2, .int .u64 x3], .agg #[.int .u64 y0, .int .u64 y1, .int .u64 y2, .int .u64 y3]] w fun e w' => e = .returned (.tuple #[.agg (U rs).toArray, .bool ov]) ∧ Below w.heap.size w w' := by
  have RX' := ((RowAt.arr w 24 [x0, x1, x2, x3] (show 4 < 1000000 by decide)).alloc (.cells #[.int .u64 y0, .int .u64 y1, .int .u64 y2, .int .u64 y3] 24)).alloc (.cells #[.int .u64 0, .int .u64 0, .int .u64 0, .int .u64 0] 24)
  have RY' := (RowAt.arr (w.alloc (.cells #[.int .u64 x0, .int .u64 x1, .int .u64 x2, .int .u64 x3] 24)) 24 [y0, y1, y2, y3] (show 4 < 1000000 by decide)).alloc (.cells #[.int .u64 0, .int .u64 0, .int .u64 0, .int .u64 0] 24)
  have RZ' := RowAt.arr ((w.alloc (.cells #[.int .u64 x0, .int .u64 x1, .int .u64 x2, .int .u64 x3] 24)).alloc (.cells #[.int .u64 y0, .int .u64 y1, .int .u64 y2, .int .u64 y3] 24)) 24 [0, 0, 0, 0] (by decide)
  simp only [World.size_alloc] at RX' RY' RZ'
  have RX : Shut (RowAt (((w.alloc (.cells #[.int .u64 x0, .int .u64 x1, .int .u64 x2, .int .u64 x3] 24)).alloc (.cells #[.int .u64 y0, .int .u64 y1, .int .u64 y2, .int .u64 y3] 24)).alloc (.cells #[.int .u64 0, .int .u64 0, .int .u64 0, .int .u64 0] 24)) 24 w.heap.size 4 (U [x0, x1, x2, x3])) := ⟨RX'⟩
  have RY : Shut (RowAt (((w.alloc (.cells #[.int .u64 x0, .int .u64 x1, .int .u64 x2, .int .u64 x3] 24)).alloc (.cells #[.int .u64 y0, .int .u64 y1, .int .u64 y2, .int .u64 y3] 24)).alloc (.cells #[.int .u64 0, .int .u64 0, .int .u64 0, .int .u64 0] 24)) 24 (w.heap.size + 1) 4 (U [y0, y1, y2, y3])) := ⟨RY'⟩
  have RZ : Shut (RowAt (((w.alloc (.cells #[.int .u64 x0, .int .u64 x1, .int .u64 x2, .int .u64 x3] 24)).alloc (.cells #[.int .u64 y0, .int .u64 y1, .int .u64 y2, .int .u64 y3] 24)).alloc (.cells #[.int .u64 0, .int .u64 0, .int .u64 0, .int .u64 0] 24)) 24 (w.heap.size + 1 + 1) 4 (U [0, 0, 0, 0])) := ⟨RZ'⟩
  have B0 := Shut.mk ((((Below.refl w.heap.size w).alloc (Nat.le_refl _) (.cells #[.int .u64 x0, .int .u64 x1, .int .u64 x2, .int .u64 x3] 24)).alloc (by simp) (.cells #[.int .u64 y0, .int .u64 y1, .int .u64 y2, .int .u64 y3] 24)).alloc (by simp; omega) (.cells #[.int .u64 0, .int .u64 0, .int .u64 0, .int .u64 0] 24))
  have FD' : ∀ W : World, RowAt W 24 w.heap.size 4 (U [x0, x1, x2, x3]) → RowAt W 24 (w.heap.size + 1) 4 (U [y0, y1, y2, y3]) → RowAt W 24 (w.heap.size + 1 + 1) 4 (U [0, 0, 0, 0]) → _ :=
    fun W h1 h2 h3 => folded_any 35 addOf (.inr rfl) addOf_le (fun x y c hc W => add_do x y c hc W) 24 (w.heap.size + 1 + 1) w.heap.size (w.heap.size + 1) 4 w.heap.size [0, 0, 0, 0] [x0, x1, x2, x3] [y0, y1, y2, y3] W h3 h1 h2 rfl rfl rfl (by decide) (by omega) (by omega) (by omega) hx hy
  have FD := Shut.mk (FD' (((w.alloc (.cells #[.int .u64 x0, .int .u64 x1, .int .u64 x2, .int .u64 x3] 24)).alloc (.cells #[.int .u64 y0, .int .u64 y1, .int .u64 y2, .int .u64 y3] 24)).alloc (.cells #[.int .u64 0, .int .u64 0, .int .u64 0, .int .u64 0] 24)).drew RX.out.drew RY.out.drew RZ.out.drew)
  rw [← hov] at FD
  have hl : rs.length = 4 := by rw [hrs]; exact fillOn_len _ _ _
  rw [← hrs] at FD
  obtain ⟨o0, o1, o2, o3, ho⟩ := list4 hl
  rw [ho] at FD ⊢
  clear RX' RY' RZ' FD' hrs hov hl ho hx hy
  go_enter Try.func13, Try.ntmps13
  go_wp2_with fail
  go_region_with (go_at_call 34; refine (FD.out).mono ?_; rintro e w1 ⟨rfl, hr1, hb1⟩)
  have BB := Shut.mk (B0.out.trans ((below_drewN (Below.refl w.heap.size (((w.alloc (.cells #[.int .u64 x0, .int .u64 x1, .int .u64 x2, .int .u64 x3] 24)).alloc (.cells #[.int .u64 y0, .int .u64 y1, .int .u64 y2, .int .u64 y3] 24)).alloc (.cells #[.int .u64 0, .int .u64 0, .int .u64 0, .int .u64 0] 24))) 1).trans hb1))
  obtain ⟨⟨a0, a1, a2, a3⟩, z0, z1, z2, z3⟩ := hr1.four
  clear hr1 hb1
  go_wp2_with fail
  refine bodyPost_ret (v := .tuple #[.agg #[.int .u64 o0, .int .u64 o1, .int .u64 o2, .int .u64 o3], .bool ov]) (by simp [results, Try.results13, go_sem, a0, a1, a2, a3]) rfl ⟨rfl, ?_⟩
  exact ((((BB.out.setCell (p := ⟨w.heap.size + 1 + 1, 0, none⟩) (by simp; omega) _).setCell (p := ⟨w.heap.size + 1 + 1, 1, none⟩) (by simp; omega) _).setCell (p := ⟨w.heap.size + 1 + 1, 2, none⟩) (by simp; omega) _).setCell (p := ⟨w.heap.size + 1 + 1, 3, none⟩) (by simp; omega) _)

set_option maxRecDepth 100000 in
set_option maxHeartbeats 2000000 in
theorem add512_any (x0 x1 x2 x3 x4 x5 x6 x7 y0 y1 y2 y3 y4 y5 y6 y7 : Nat) (rs : List Nat) (ov : Bool) (hrs : rs = fillOn [0, 0, 0, 0, 0, 0, 0, 0] (limbAt addOf [x0, x1, x2, x3, x4, x5, x6, x7] [y0, y1, y2, y3, y4, y5, y6, y7]) 8) (hov : ov = decide (carryAt addOf [x0, x1, x2, x3, x4, x5, x6, x7] [y0, y1, y2, y3, y4, y5, y6, y7] 8 ≠ 0)) (w : World) (hx : ∀ x ∈ [x0, x1, x2, x3, x4, x5, x6, x7], x < 18446744073709551616) (hy : ∀ x ∈ [y0, y1, y2, y3, y4, y5, y6, y7], x < 18446744073709551616) :
    Calls Try.prog 17 #[.agg #[.int .u64 x0, .int .u64 x1, .int .u64 x2, .int .u64 x3, .int .u64 x4, .int .u64 x5, .int .u64 x6, .int .u64 x7], .agg #[.int .u64 y0, .int .u64 y1, .int .u64 y2, .int .u64 y3, .int .u64 y4, .int .u64 y5, .int .u64 y6, .int .u64 y7]] w fun e w' => e = .returned (.tuple #[.agg (U rs).toArray, .bool ov]) ∧ Below w.heap.size w w' := by
  have RX' := ((RowAt.arr w 37 [x0, x1, x2, x3, x4, x5, x6, x7] (show 8 < 1000000 by decide)).alloc (.cells #[.int .u64 y0, .int .u64 y1, .int .u64 y2, .int .u64 y3, .int .u64 y4, .int .u64 y5, .int .u64 y6, .int .u64 y7] 37)).alloc (.cells #[.int .u64 0, .int .u64 0, .int .u64 0, .int .u64 0, .int .u64 0, .int .u64 0, .int .u64 0, .int .u64 0] 37)
  have RY' := (RowAt.arr (w.alloc (.cells #[.int .u64 x0, .int .u64 x1, .int .u64 x2, .int .u64 x3, .int .u64 x4, .int .u64 x5, .int .u64 x6, .int .u64 x7] 37)) 37 [y0, y1, y2, y3, y4, y5, y6, y7] (show 8 < 1000000 by decide)).alloc (.cells #[.int .u64 0, .int .u64 0, .int .u64 0, .int .u64 0, .int .u64 0, .int .u64 0, .int .u64 0, .int .u64 0] 37)
  have RZ' := RowAt.arr ((w.alloc (.cells #[.int .u64 x0, .int .u64 x1, .int .u64 x2, .int .u64 x3, .int .u64 x4, .int .u64 x5, .int .u64 x6, .int .u64 x7] 37)).alloc (.cells #[.int .u64 y0, .int .u64 y1, .int .u64 y2, .int .u64 y3, .int .u64 y4, .int .u64 y5, .int .u64 y6, .int .u64 y7] 37)) 37 [0, 0, 0, 0, 0, 0, 0, 0] (by decide)
  simp only [World.size_alloc] at RX' RY' RZ'
  have RX : Shut (RowAt (((w.alloc (.cells #[.int .u64 x0, .int .u64 x1, .int .u64 x2, .int .u64 x3, .int .u64 x4, .int .u64 x5, .int .u64 x6, .int .u64 x7] 37)).alloc (.cells #[.int .u64 y0, .int .u64 y1, .int .u64 y2, .int .u64 y3, .int .u64 y4, .int .u64 y5, .int .u64 y6, .int .u64 y7] 37)).alloc (.cells #[.int .u64 0, .int .u64 0, .int .u64 0, .int .u64 0, .int .u64 0, .int .u64 0, .int .u64 0, .int .u64 0] 37)) 37 w.heap.size 8 (U [x0, x1, x2, x3, x4, x5, x6, x7])) := ⟨RX'⟩
  have RY : Shut (RowAt (((w.alloc (.cells #[.int .u64 x0, .int .u64 x1, .int .u64 x2, .int .u64 x3, .int .u64 x4, .int .u64 x5, .int .u64 x6, .int .u64 x7] 37)).alloc (.cells #[.int .u64 y0, .int .u64 y1, .int .u64 y2, .int .u64 y3, .int .u64 y4, .int .u64 y5, .int .u64 y6, .int .u64 y7] 37)).alloc (.cells #[.int .u64 0, .int .u64 0, .int .u64 0, .int .u64 0, .int .u64 0, .int .u64 0, .int .u64 0, .int .u64 0] 37)) 37 (w.heap.size + 1) 8 (U [y0, y1, y2, y3, y4, y5, y6, y7])) := ⟨RY'⟩
  have RZ : Shut (RowAt (((w.alloc (.cells #[.int .u64 x0, .int .u64 x1, .int .u64 x2, .int .u64 x3, .int .u64 x4, .int .u64 x5, .int .u64 x6, .int .u64 x7] 37)).alloc (.cells #[.int .u64 y0, .int .u64 y1, .int .u64 y2, .int .u64 y3, .int .u64 y4, .int .u64 y5, .int .u64 y6, .int .u64 y7] 37)).alloc (.cells #[.int .u64 0, .int .u64 0, .int .u64 0, .int .u64 0, .int .u64 0, .int .u64 0, .int .u64 0, .int .u64 0] 37)) 37 (w.heap.size + 1 + 1) 8 (U [0, 0, 0, 0, 0, 0, 0, 0])) := ⟨RZ'⟩
  have B0 := Shut.mk ((((Below.refl w.heap.size w).alloc (Nat.le_refl _) (.cells #[.int .u64 x0, .int .u64 x1, .int .u64 x2, .int .u64 x3, .int .u64 x4, .int .u64 x5, .int .u64 x6, .int .u64 x7] 37)).alloc (by simp) (.cells #[.int .u64 y0, .int .u64 y1, .int .u64 y2, .int .u64 y3, .int .u64 y4, .int .u64 y5, .int .u64 y6, .int .u64 y7] 37)).alloc (by simp; omega) (.cells #[.int .u64 0, .int .u64 0, .int .u64 0, .int .u64 0, .int .u64 0, .int .u64 0, .int .u64 0, .int .u64 0] 37))
  have FD' : ∀ W : World, RowAt W 37 w.heap.size 8 (U [x0, x1, x2, x3, x4, x5, x6, x7]) → RowAt W 37 (w.heap.size + 1) 8 (U [y0, y1, y2, y3, y4, y5, y6, y7]) → RowAt W 37 (w.heap.size + 1 + 1) 8 (U [0, 0, 0, 0, 0, 0, 0, 0]) → _ :=
    fun W h1 h2 h3 => folded_any 35 addOf (.inr rfl) addOf_le (fun x y c hc W => add_do x y c hc W) 37 (w.heap.size + 1 + 1) w.heap.size (w.heap.size + 1) 8 w.heap.size [0, 0, 0, 0, 0, 0, 0, 0] [x0, x1, x2, x3, x4, x5, x6, x7] [y0, y1, y2, y3, y4, y5, y6, y7] W h3 h1 h2 rfl rfl rfl (by decide) (by omega) (by omega) (by omega) hx hy
  have FD := Shut.mk (FD' (((w.alloc (.cells #[.int .u64 x0, .int .u64 x1, .int .u64 x2, .int .u64 x3, .int .u64 x4, .int .u64 x5, .int .u64 x6, .int .u64 x7] 37)).alloc (.cells #[.int .u64 y0, .int .u64 y1, .int .u64 y2, .int .u64 y3, .int .u64 y4, .int .u64 y5, .int .u64 y6, .int .u64 y7] 37)).alloc (.cells #[.int .u64 0, .int .u64 0, .int .u64 0, .int .u64 0, .int .u64 0, .int .u64 0, .int .u64 0, .int .u64 0] 37)).drew RX.out.drew RY.out.drew RZ.out.drew)
  rw [← hov] at FD
  have hl : rs.length = 8 := by rw [hrs]; exact fillOn_len _ _ _
  rw [← hrs] at FD
  obtain ⟨o0, o1, o2, o3, o4, o5, o6, o7, ho⟩ := list8 hl
  rw [ho] at FD ⊢
  clear RX' RY' RZ' FD' hrs hov hl ho hx hy
  go_enter Try.func17, Try.ntmps17
  go_wp2_with fail
  go_region_with (go_at_call 34; refine (FD.out).mono ?_; rintro e w1 ⟨rfl, hr1, hb1⟩)
  have BB := Shut.mk (B0.out.trans ((below_drewN (Below.refl w.heap.size (((w.alloc (.cells #[.int .u64 x0, .int .u64 x1, .int .u64 x2, .int .u64 x3, .int .u64 x4, .int .u64 x5, .int .u64 x6, .int .u64 x7] 37)).alloc (.cells #[.int .u64 y0, .int .u64 y1, .int .u64 y2, .int .u64 y3, .int .u64 y4, .int .u64 y5, .int .u64 y6, .int .u64 y7] 37)).alloc (.cells #[.int .u64 0, .int .u64 0, .int .u64 0, .int .u64 0, .int .u64 0, .int .u64 0, .int .u64 0, .int .u64 0] 37))) 1).trans hb1))
  obtain ⟨⟨a0, a1, a2, a3, a4, a5, a6, a7⟩, z0, z1, z2, z3, z4, z5, z6, z7⟩ := hr1.eight
  clear hr1 hb1
  go_wp2_with fail
  refine bodyPost_ret (v := .tuple #[.agg #[.int .u64 o0, .int .u64 o1, .int .u64 o2, .int .u64 o3, .int .u64 o4, .int .u64 o5, .int .u64 o6, .int .u64 o7], .bool ov]) (by simp [results, Try.results17, go_sem, a0, a1, a2, a3, a4, a5, a6, a7]) rfl ⟨rfl, ?_⟩
  exact ((((((((BB.out.setCell (p := ⟨w.heap.size + 1 + 1, 0, none⟩) (by simp; omega) _).setCell (p := ⟨w.heap.size + 1 + 1, 1, none⟩) (by simp; omega) _).setCell (p := ⟨w.heap.size + 1 + 1, 2, none⟩) (by simp; omega) _).setCell (p := ⟨w.heap.size + 1 + 1, 3, none⟩) (by simp; omega) _).setCell (p := ⟨w.heap.size + 1 + 1, 4, none⟩) (by simp; omega) _).setCell (p := ⟨w.heap.size + 1 + 1, 5, none⟩) (by simp; omega) _).setCell (p := ⟨w.heap.size + 1 + 1, 6, none⟩) (by simp; omega) _).setCell (p := ⟨w.heap.size + 1 + 1, 7, none⟩) (by simp; omega) _)

end Go.Proofs.Ytdgklodhgbbdjaa
