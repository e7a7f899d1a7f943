/- SW, SX: merged by merge.py. -/
import Derived.Test.YtcaimmhhklcpoaaGreatDoorLK21
import Derived.Test.YtcaimmhhklcpoaaGreatDoorLK20
import Derived.Test.YtcaimmhhklcpoaaGreatDoorLK22
import Derived.Test.YtcaimmhhklcpoaaGreatDoorLK23
namespace Go.Proofs.YtcaimmhhklcpoaaGreatDoor
set_option linter.unusedVariables false
set_option linter.unusedSimpArgs false
set_option maxRecDepth 100000
open Go Go.RowKit
end Go.Proofs.YtcaimmhhklcpoaaGreatDoor
namespace Go.Proofs.YtcaimmhhklcpoaaGreatDoor
set_option linter.unusedVariables false
set_option linter.unusedSimpArgs false
set_option maxRecDepth 100000
open Go Go.RowKit
def lr0 (k c m : Int) : LR := ⟨k, [], [], [], none, 0, 0, [], 0, none, 0, 0, 0, c, m, ⟨[], [], 0, 0, 0, 0⟩, []⟩
def lm0 : LM := ⟨[], [], 0, 0, 0, 0⟩
theorem RowsV.none_ (W : World) (f : Nat → LR) : RowsV W none 0 f := ⟨by decide, fun h => absurd h (by decide)⟩
theorem RowsV.one {W : World} {g : Nat} {k c m : Int} (h : Blk W g (rowC (lr0 k c m)).toArray 31) : RowsV W (some ⟨g, 0, none⟩) 1 (fun _ => lr0 k c m) :=
  ⟨by decide, fun _ => ⟨g, rfl, h.lt, fun i hi j hj => by
    obtain rfl : i = 0 := by omega
    rw [Nat.zero_mul, Nat.zero_add]
    rcases hv : (rowC (lr0 k c m))[j]? with _ | v
    · have := List.getElem?_eq_none_iff.1 hv
      simp [rowC] at this
      omega
    · exact h.cell j (by simpa using hv)⟩⟩
theorem short0 (k c m : Int) : ShortR (fun _ => lr0 k c m) := fun _ => ⟨by show 0 ≤ 500; decide, by show 0 ≤ 500; decide⟩
theorem words0 (k c m : Int) : Words lm0 (fun _ => lr0 k c m) := fun i => by
  cases i <;> (show 0 < 18446744073709551616; decide)
structure EnvT (B : Nat) (W : World) : Prop where
  tabs : Tabs B W
  low : B ≤ W.heap.size
  err : ErrT W
theorem EnvT.but {B : Nat} {W W' : World} (h : EnvT B W) (hb : But [] W W') : EnvT B W' :=
  ⟨h.tabs.below (hb.below h.low (by simp)), Nat.le_trans h.low hb.size, h.err.but hb (by simp)⟩
section
variable (W : World)
theorem wk_agree (A : Option Addr) (n c : Nat) (f : Nat → LR) (z : Int) (hR : RowsV W A n f) (hz : firstIdx (fun i => !agr (f i)) n 0 = z) : Calls Tryz.prog 7 #[.slice A n c] W fun e w' => e = .returned (.int .i64 z) ∧ But [] W w' := by
  rw [← hz]; exact agree_any A n c f W hR
theorem wk_truth (A : Option Addr) (n c : Nat) (f : Nat → LR) (z : Int) (hR : RowsV W A n f) (hz : firstIdx (fun i => badT (f i)) n 0 = z) : Calls Tryz.prog 13 #[.slice A n c, .slice none 0 0] W fun e w' => e = .returned (.int .i64 z) ∧ But [] W w' := by
  rw [← hz]; exact truth_any A n c f W hR
theorem wk_reveals {B : Nat} (h : EnvT B W) (A : Option Addr) (n c : Nat) (f : Nat → LR) (z : Int) (hR : RowsV W A n f) (hS : ShortR f) (hz : firstIdx (fun i => tk (f i)) n 0 = z) : Calls Tryz.prog 14 #[.slice A n c, .slice none 0 0] W fun e w' => e = .returned (.int .i64 z) ∧ But [] W w' := by
  rw [← hz]; exact reveals_any B A n c f W hR hS h.tabs h.low h.err
theorem wk_rises {B : Nat} (h : EnvT B W) (A : Option Addr) (n c : Nat) (f : Nat → LR) (z : Int) (hR : RowsV W A n f) (hS : ShortR f) (hz : firstIdx (badR lm0 f) n 0 = z) : Calls Tryz.prog 11 #[.agg #[.string ⟨#[]⟩, .string ⟨#[]⟩, .int .u64 0, .int .u64 0, .int .u64 0, .int .u64 0], .slice A n c] W fun e w' => e = .returned (.int .i64 z) ∧ But [] W w' := by
  rw [← hz]; exact rises_any B lm0 A n c f W hR hS h.tabs h.low h.err
theorem wk_enough {B : Nat} (h : EnvT B W) (A : Option Addr) (n c : Nat) (f : Nat → LR) (z : Int) (hR : RowsV W A n f) (hS : ShortR f) (hw : Words lm0 f) (hz : firstIdx (badE lm0 1 f) n 0 = z) : Calls Tryz.prog 12 #[.agg #[.string ⟨#[]⟩, .string ⟨#[]⟩, .int .u64 0, .int .u64 0, .int .u64 0, .int .u64 0], .int .u64 1, .slice A n c] W fun e w' => e = .returned (.int .i64 z) ∧ But [] W w' := by
  rw [← hz]; exact enough_any B lm0 1 A n c f W hR hS hw h.tabs h.low h.err
end
set_option maxHeartbeats 16000000 in
theorem works_any (B : Nat) (W : World) (h : EnvT B W) : Calls Tryz.prog 6 #[] W fun e w' => e = .returned (.bool true) ∧ But [] W w' := by
  have E0 := Shut.mk h
  clear h
  go_enter Tryz.func6, Tryz.ntmps6
  go_wp2_with fail
  refine (wk_agree W none 0 0 (fun _ => lr0 0 0 0) (-1) (RowsV.none_ _ _) rfl).mono ?_
  rintro e w1 ⟨rfl, hb⟩
  have E1 := Shut.mk (E0.out.but hb)
  have HB := Shut.mk (hb)
  clear hb
  go_wp2_with fail
  refine (wk_rises w1 E1.out none 0 0 (fun _ => lr0 0 0 0) (-1) (RowsV.none_ _ _) (short0 _ _ _) rfl).mono ?_
  rintro e w2 ⟨rfl, hb⟩
  have E2 := Shut.mk (E1.out.but hb)
  have HB := Shut.mk (HB.out.trans hb)
  clear hb
  go_wp2_with fail
  refine (wk_truth w2 none 0 0 (fun _ => lr0 0 0 0) (-1) (RowsV.none_ _ _) rfl).mono ?_
  rintro e w3 ⟨rfl, hb⟩
  have E3 := Shut.mk (E2.out.but hb)
  have HB := Shut.mk (HB.out.trans hb)
  clear hb
  go_wp2_with fail
  refine (wk_reveals w3 E3.out none 0 0 (fun _ => lr0 0 0 0) (-1) (RowsV.none_ _ _) (short0 _ _ _) rfl).mono ?_
  rintro e w4 ⟨rfl, hb⟩
  have E4 := Shut.mk (E3.out.but hb)
  have HB := Shut.mk (HB.out.trans hb)
  clear hb
  go_wp2_with fail
  refine (wk_enough w4 E4.out none 0 0 (fun _ => lr0 0 0 0) (-1) (RowsV.none_ _ _) (short0 _ _ _) (words0 _ _ _) rfl).mono ?_
  rintro e w5 ⟨rfl, hb⟩
  have E5 := Shut.mk (E4.out.but hb)
  have HB := Shut.mk (HB.out.trans hb)
  clear hb
  obtain ⟨v5, hv5⟩ : ∃ v5, v5 = (((((w5.alloc (.cells #[.int .i64 1, .string ⟨#[]⟩, .string ⟨#[]⟩, .string ⟨#[]⟩, .slice none 0 0, .string ⟨#[]⟩, .int .u64 0, .slice none 0 0, .int .u64 0, .int .i64 0, .int .i64 20, .string ⟨#[]⟩, .string ⟨#[]⟩, .int .u64 0, .int .u64 0, .int .u64 0, .int .u64 0, .string ⟨#[]⟩] 31)).alloc (.cells #[.int .i64 1, .string ⟨#[]⟩, .string ⟨#[]⟩, .string ⟨#[]⟩, .slice none 0 0, .string ⟨#[]⟩, .int .u64 0, .slice none 0 0, .int .u64 0, .int .i64 20, .int .i64 0, .string ⟨#[]⟩, .string ⟨#[]⟩, .int .u64 0, .int .u64 0, .int .u64 0, .int .u64 0, .string ⟨#[]⟩] 31)).alloc (.cells #[.int .i64 1, .string ⟨#[]⟩, .string ⟨#[]⟩, .string ⟨#[]⟩, .slice none 0 0, .string ⟨#[]⟩, .int .u64 0, .slice none 0 0, .int .u64 0, .int .i64 16, .int .i64 0, .string ⟨#[]⟩, .string ⟨#[]⟩, .int .u64 0, .int .u64 0, .int .u64 0, .int .u64 0, .string ⟨#[]⟩] 31)).alloc (.cells #[.int .i64 0, .string ⟨#[]⟩, .string ⟨#[]⟩, .string ⟨#[]⟩, .slice none 0 0, .string ⟨#[]⟩, .int .u64 0, .slice none 0 0, .int .u64 0, .int .i64 0, .int .i64 0, .string ⟨#[]⟩, .string ⟨#[]⟩, .int .u64 0, .int .u64 0, .int .u64 0, .int .u64 0, .string ⟨#[]⟩] 31)).alloc (.cells #[.int .i64 1, .string ⟨#[]⟩, .string ⟨#[]⟩, .string ⟨#[]⟩, .slice none 0 0, .string ⟨#[]⟩, .int .u64 0, .slice none 0 0, .int .u64 0, .int .i64 0, .int .i64 2, .string ⟨#[]⟩, .string ⟨#[]⟩, .int .u64 0, .int .u64 0, .int .u64 0, .int .u64 0, .string ⟨#[]⟩] 31)) := ⟨_, rfl⟩
  have X0 : Shut (Blk v5 (w5.heap.size) (rowC (lr0 1 0 20)).toArray 31) := ⟨by
    rw [hv5]
    have := Blk.new w5 #[.int .i64 1, .string ⟨#[]⟩, .string ⟨#[]⟩, .string ⟨#[]⟩, .slice none 0 0, .string ⟨#[]⟩, .int .u64 0, .slice none 0 0, .int .u64 0, .int .i64 0, .int .i64 20, .string ⟨#[]⟩, .string ⟨#[]⟩, .int .u64 0, .int .u64 0, .int .u64 0, .int .u64 0, .string ⟨#[]⟩] 31
    try simp only [World.size_alloc] at this
    exact ((((this.alloc _).alloc _).alloc _).alloc _)⟩
  have X1 : Shut (Blk v5 (w5.heap.size + 1) (rowC (lr0 1 20 0)).toArray 31) := ⟨by
    rw [hv5]
    have := Blk.new (w5.alloc (.cells #[.int .i64 1, .string ⟨#[]⟩, .string ⟨#[]⟩, .string ⟨#[]⟩, .slice none 0 0, .string ⟨#[]⟩, .int .u64 0, .slice none 0 0, .int .u64 0, .int .i64 0, .int .i64 20, .string ⟨#[]⟩, .string ⟨#[]⟩, .int .u64 0, .int .u64 0, .int .u64 0, .int .u64 0, .string ⟨#[]⟩] 31)) #[.int .i64 1, .string ⟨#[]⟩, .string ⟨#[]⟩, .string ⟨#[]⟩, .slice none 0 0, .string ⟨#[]⟩, .int .u64 0, .slice none 0 0, .int .u64 0, .int .i64 20, .int .i64 0, .string ⟨#[]⟩, .string ⟨#[]⟩, .int .u64 0, .int .u64 0, .int .u64 0, .int .u64 0, .string ⟨#[]⟩] 31
    try simp only [World.size_alloc] at this
    exact (((this.alloc _).alloc _).alloc _)⟩
  have X2 : Shut (Blk v5 (w5.heap.size + 1 + 1) (rowC (lr0 1 16 0)).toArray 31) := ⟨by
    rw [hv5]
    have := Blk.new ((w5.alloc (.cells #[.int .i64 1, .string ⟨#[]⟩, .string ⟨#[]⟩, .string ⟨#[]⟩, .slice none 0 0, .string ⟨#[]⟩, .int .u64 0, .slice none 0 0, .int .u64 0, .int .i64 0, .int .i64 20, .string ⟨#[]⟩, .string ⟨#[]⟩, .int .u64 0, .int .u64 0, .int .u64 0, .int .u64 0, .string ⟨#[]⟩] 31)).alloc (.cells #[.int .i64 1, .string ⟨#[]⟩, .string ⟨#[]⟩, .string ⟨#[]⟩, .slice none 0 0, .string ⟨#[]⟩, .int .u64 0, .slice none 0 0, .int .u64 0, .int .i64 20, .int .i64 0, .string ⟨#[]⟩, .string ⟨#[]⟩, .int .u64 0, .int .u64 0, .int .u64 0, .int .u64 0, .string ⟨#[]⟩] 31)) #[.int .i64 1, .string ⟨#[]⟩, .string ⟨#[]⟩, .string ⟨#[]⟩, .slice none 0 0, .string ⟨#[]⟩, .int .u64 0, .slice none 0 0, .int .u64 0, .int .i64 16, .int .i64 0, .string ⟨#[]⟩, .string ⟨#[]⟩, .int .u64 0, .int .u64 0, .int .u64 0, .int .u64 0, .string ⟨#[]⟩] 31
    try simp only [World.size_alloc] at this
    exact ((this.alloc _).alloc _)⟩
  have X3 : Shut (Blk v5 (w5.heap.size + 1 + 1 + 1) (rowC (lr0 0 0 0)).toArray 31) := ⟨by
    rw [hv5]
    have := Blk.new (((w5.alloc (.cells #[.int .i64 1, .string ⟨#[]⟩, .string ⟨#[]⟩, .string ⟨#[]⟩, .slice none 0 0, .string ⟨#[]⟩, .int .u64 0, .slice none 0 0, .int .u64 0, .int .i64 0, .int .i64 20, .string ⟨#[]⟩, .string ⟨#[]⟩, .int .u64 0, .int .u64 0, .int .u64 0, .int .u64 0, .string ⟨#[]⟩] 31)).alloc (.cells #[.int .i64 1, .string ⟨#[]⟩, .string ⟨#[]⟩, .string ⟨#[]⟩, .slice none 0 0, .string ⟨#[]⟩, .int .u64 0, .slice none 0 0, .int .u64 0, .int .i64 20, .int .i64 0, .string ⟨#[]⟩, .string ⟨#[]⟩, .int .u64 0, .int .u64 0, .int .u64 0, .int .u64 0, .string ⟨#[]⟩] 31)).alloc (.cells #[.int .i64 1, .string ⟨#[]⟩, .string ⟨#[]⟩, .string ⟨#[]⟩, .slice none 0 0, .string ⟨#[]⟩, .int .u64 0, .slice none 0 0, .int .u64 0, .int .i64 16, .int .i64 0, .string ⟨#[]⟩, .string ⟨#[]⟩, .int .u64 0, .int .u64 0, .int .u64 0, .int .u64 0, .string ⟨#[]⟩] 31)) #[.int .i64 0, .string ⟨#[]⟩, .string ⟨#[]⟩, .string ⟨#[]⟩, .slice none 0 0, .string ⟨#[]⟩, .int .u64 0, .slice none 0 0, .int .u64 0, .int .i64 0, .int .i64 0, .string ⟨#[]⟩, .string ⟨#[]⟩, .int .u64 0, .int .u64 0, .int .u64 0, .int .u64 0, .string ⟨#[]⟩] 31
    try simp only [World.size_alloc] at this
    exact (this.alloc _)⟩
  have X4 : Shut (Blk v5 (w5.heap.size + 1 + 1 + 1 + 1) (rowC (lr0 1 0 2)).toArray 31) := ⟨by
    rw [hv5]
    have := Blk.new ((((w5.alloc (.cells #[.int .i64 1, .string ⟨#[]⟩, .string ⟨#[]⟩, .string ⟨#[]⟩, .slice none 0 0, .string ⟨#[]⟩, .int .u64 0, .slice none 0 0, .int .u64 0, .int .i64 0, .int .i64 20, .string ⟨#[]⟩, .string ⟨#[]⟩, .int .u64 0, .int .u64 0, .int .u64 0, .int .u64 0, .string ⟨#[]⟩] 31)).alloc (.cells #[.int .i64 1, .string ⟨#[]⟩, .string ⟨#[]⟩, .string ⟨#[]⟩, .slice none 0 0, .string ⟨#[]⟩, .int .u64 0, .slice none 0 0, .int .u64 0, .int .i64 20, .int .i64 0, .string ⟨#[]⟩, .string ⟨#[]⟩, .int .u64 0, .int .u64 0, .int .u64 0, .int .u64 0, .string ⟨#[]⟩] 31)).alloc (.cells #[.int .i64 1, .string ⟨#[]⟩, .string ⟨#[]⟩, .string ⟨#[]⟩, .slice none 0 0, .string ⟨#[]⟩, .int .u64 0, .slice none 0 0, .int .u64 0, .int .i64 16, .int .i64 0, .string ⟨#[]⟩, .string ⟨#[]⟩, .int .u64 0, .int .u64 0, .int .u64 0, .int .u64 0, .string ⟨#[]⟩] 31)).alloc (.cells #[.int .i64 0, .string ⟨#[]⟩, .string ⟨#[]⟩, .string ⟨#[]⟩, .slice none 0 0, .string ⟨#[]⟩, .int .u64 0, .slice none 0 0, .int .u64 0, .int .i64 0, .int .i64 0, .string ⟨#[]⟩, .string ⟨#[]⟩, .int .u64 0, .int .u64 0, .int .u64 0, .int .u64 0, .string ⟨#[]⟩] 31)) #[.int .i64 1, .string ⟨#[]⟩, .string ⟨#[]⟩, .string ⟨#[]⟩, .slice none 0 0, .string ⟨#[]⟩, .int .u64 0, .slice none 0 0, .int .u64 0, .int .i64 0, .int .i64 2, .string ⟨#[]⟩, .string ⟨#[]⟩, .int .u64 0, .int .u64 0, .int .u64 0, .int .u64 0, .string ⟨#[]⟩] 31
    try simp only [World.size_alloc] at this
    exact this⟩
  have BV : Shut (But [] w5 v5) := ⟨by rw [hv5]; exact (((((But.refl [] w5).alloc _).alloc _).alloc _).alloc _).alloc _⟩
  have HV := Shut.mk hv5
  clear hv5
  have HB := Shut.mk (HB.out.trans BV.out)
  have E5 := Shut.mk (E5.out.but BV.out)
  go_wp2_with fail
  rw [← HV.out]
  refine (wk_agree v5 (some ⟨w5.heap.size, 0, none⟩) 1 1 (fun _ => lr0 1 0 20) (-1) (RowsV.one X0.out) rfl).mono ?_
  rintro e w6 ⟨rfl, hb⟩
  have E6 := Shut.mk (E5.out.but hb)
  have X0 := Shut.mk (X0.out.but hb (by simp))
  have X1 := Shut.mk (X1.out.but hb (by simp))
  have X2 := Shut.mk (X2.out.but hb (by simp))
  have X3 := Shut.mk (X3.out.but hb (by simp))
  have X4 := Shut.mk (X4.out.but hb (by simp))
  have HB := Shut.mk (HB.out.trans hb)
  clear hb
  go_wp2_with fail
  refine (wk_agree w6 (some ⟨w5.heap.size + 1 + 1 + 1 + 1, 0, none⟩) 1 1 (fun _ => lr0 1 0 2) (0) (RowsV.one X4.out) rfl).mono ?_
  rintro e w7 ⟨rfl, hb⟩
  have E7 := Shut.mk (E6.out.but hb)
  have X0 := Shut.mk (X0.out.but hb (by simp))
  have X1 := Shut.mk (X1.out.but hb (by simp))
  have X2 := Shut.mk (X2.out.but hb (by simp))
  have X3 := Shut.mk (X3.out.but hb (by simp))
  have X4 := Shut.mk (X4.out.but hb (by simp))
  have HB := Shut.mk (HB.out.trans hb)
  clear hb
  go_wp2_with fail
  refine (wk_agree w7 (some ⟨w5.heap.size + 1, 0, none⟩) 1 1 (fun _ => lr0 1 20 0) (-1) (RowsV.one X1.out) rfl).mono ?_
  rintro e w8 ⟨rfl, hb⟩
  have E8 := Shut.mk (E7.out.but hb)
  have X0 := Shut.mk (X0.out.but hb (by simp))
  have X1 := Shut.mk (X1.out.but hb (by simp))
  have X2 := Shut.mk (X2.out.but hb (by simp))
  have X3 := Shut.mk (X3.out.but hb (by simp))
  have X4 := Shut.mk (X4.out.but hb (by simp))
  have HB := Shut.mk (HB.out.trans hb)
  clear hb
  go_wp2_with fail
  refine (wk_agree w8 (some ⟨w5.heap.size + 1 + 1, 0, none⟩) 1 1 (fun _ => lr0 1 16 0) (0) (RowsV.one X2.out) rfl).mono ?_
  rintro e w9 ⟨rfl, hb⟩
  have E9 := Shut.mk (E8.out.but hb)
  have X0 := Shut.mk (X0.out.but hb (by simp))
  have X1 := Shut.mk (X1.out.but hb (by simp))
  have X2 := Shut.mk (X2.out.but hb (by simp))
  have X3 := Shut.mk (X3.out.but hb (by simp))
  have X4 := Shut.mk (X4.out.but hb (by simp))
  have HB := Shut.mk (HB.out.trans hb)
  clear hb
  go_wp2_with fail
  refine (wk_rises w9 E9.out (some ⟨w5.heap.size + 1 + 1 + 1, 0, none⟩) 1 1 (fun _ => lr0 0 0 0) (0) (RowsV.one X3.out) (short0 _ _ _) rfl).mono ?_
  rintro e w10 ⟨rfl, hb⟩
  have E10 := Shut.mk (E9.out.but hb)
  have X0 := Shut.mk (X0.out.but hb (by simp))
  have X1 := Shut.mk (X1.out.but hb (by simp))
  have X2 := Shut.mk (X2.out.but hb (by simp))
  have X3 := Shut.mk (X3.out.but hb (by simp))
  have X4 := Shut.mk (X4.out.but hb (by simp))
  have HB := Shut.mk (HB.out.trans hb)
  clear hb
  go_wp2_with fail
  refine (wk_truth w10 (some ⟨w5.heap.size + 1 + 1 + 1, 0, none⟩) 1 1 (fun _ => lr0 0 0 0) (0) (RowsV.one X3.out) rfl).mono ?_
  rintro e w11 ⟨rfl, hb⟩
  have E11 := Shut.mk (E10.out.but hb)
  have X0 := Shut.mk (X0.out.but hb (by simp))
  have X1 := Shut.mk (X1.out.but hb (by simp))
  have X2 := Shut.mk (X2.out.but hb (by simp))
  have X3 := Shut.mk (X3.out.but hb (by simp))
  have X4 := Shut.mk (X4.out.but hb (by simp))
  have HB := Shut.mk (HB.out.trans hb)
  clear hb
  go_wp2_with fail
  refine (wk_reveals w11 E11.out (some ⟨w5.heap.size + 1 + 1 + 1, 0, none⟩) 1 1 (fun _ => lr0 0 0 0) (0) (RowsV.one X3.out) (short0 _ _ _) rfl).mono ?_
  rintro e w12 ⟨rfl, hb⟩
  have E12 := Shut.mk (E11.out.but hb)
  have X0 := Shut.mk (X0.out.but hb (by simp))
  have X1 := Shut.mk (X1.out.but hb (by simp))
  have X2 := Shut.mk (X2.out.but hb (by simp))
  have X3 := Shut.mk (X3.out.but hb (by simp))
  have X4 := Shut.mk (X4.out.but hb (by simp))
  have HB := Shut.mk (HB.out.trans hb)
  clear hb
  go_wp2_with fail
  refine (wk_enough w12 E12.out (some ⟨w5.heap.size + 1 + 1 + 1, 0, none⟩) 1 1 (fun _ => lr0 0 0 0) (0) (RowsV.one X3.out) (short0 _ _ _) (words0 _ _ _) rfl).mono ?_
  rintro e w13 ⟨rfl, hb⟩
  have E13 := Shut.mk (E12.out.but hb)
  have X0 := Shut.mk (X0.out.but hb (by simp))
  have X1 := Shut.mk (X1.out.but hb (by simp))
  have X2 := Shut.mk (X2.out.but hb (by simp))
  have X3 := Shut.mk (X3.out.but hb (by simp))
  have X4 := Shut.mk (X4.out.but hb (by simp))
  have HB := Shut.mk (HB.out.trans hb)
  clear hb
  go_wp2_with fail
  go_ret
  exact ⟨rfl, HB.out⟩
end Go.Proofs.YtcaimmhhklcpoaaGreatDoor
