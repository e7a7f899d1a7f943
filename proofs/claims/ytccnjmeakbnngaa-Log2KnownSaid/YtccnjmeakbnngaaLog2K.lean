/- The walk of the law Log2Known. -/
import Derived.Test.YtccnjmeakbnngaaLog2T
import Derived.Deep.RegionHeld3
import Derived.Deep.DeepCutAuto
namespace Go.Proofs.Ytccnjmeakbnngaa
set_option linter.unusedVariables false
open Go.RowKit Go.Shelf

/-- The chapter's numbers, and their lower bounds. -/
def kX (k : Nat) : Nat := [0, 1, 2, 3, 10, 18446744073709551615, 9223372036854775808].getD k 0
def kL (k : Nat) : Nat := [0, 0, 16777216, 26591258, 55732705, 1073741823, 1056964608].getD k 0

theorem k_lo : ∀ k, k < 7 → L2.lo (kX k) = kL k := by decide +kernel
theorem k_hi : ∀ k, k < 7 → L2.hi (kX k) = if kX k = 0 then 0 else kL k + 1 := by decide +kernel
theorem kX_lt : ∀ k, k < 7 → kX k < 18446744073709551616 := by decide +kernel
theorem kL_lt : ∀ k, k < 7 → kL k < 1073741824 := by decide +kernel

/-- The two tables lie in memory. -/
def kCells (B : Nat) (W : World) : Prop :=
  (∀ k, k < 7 → W.cell? ⟨B, k, none⟩ = some (.int .u64 (kX k))) ∧ (∀ k, k < 7 → W.cell? ⟨B + 1, k, none⟩ = some (.int .u64 (kL k)))

def kAll (B : Nat) (w W : World) : Prop := kCells B W ∧ Below B w W ∧ B + 1 < W.heap.size

theorem kS_drew {B k x l : Nat} {w W : World} (h : W.cell? ⟨B, k, none⟩ = some (.int .u64 (x : Int)) ∧ W.cell? ⟨B + 1, k, none⟩ = some (.int .u64 (l : Int)) ∧ kAll B w W) :
    W.drew.cell? ⟨B, k, none⟩ = some (.int .u64 (x : Int)) ∧ W.drew.cell? ⟨B + 1, k, none⟩ = some (.int .u64 (l : Int)) ∧ kAll B w W.drew :=
  ⟨h.1, h.2.1, h.2.2.1, h.2.2.2.1.drew, h.2.2.2.2⟩
theorem kS_keep {B k x l : Nat} {w W W' : World} (h : W.cell? ⟨B, k, none⟩ = some (.int .u64 (x : Int)) ∧ W.cell? ⟨B + 1, k, none⟩ = some (.int .u64 (l : Int)) ∧ kAll B w W) (hb : Below W.heap.size W W') :
    W'.cell? ⟨B, k, none⟩ = some (.int .u64 (x : Int)) ∧ W'.cell? ⟨B + 1, k, none⟩ = some (.int .u64 (l : Int)) ∧ kAll B w W' := by
  obtain ⟨h1, h2, ⟨h3, h3'⟩, h4, h5⟩ := h
  have c : ∀ b o, b < W.heap.size → W'.cell? ⟨b, o, none⟩ = W.cell? ⟨b, o, none⟩ := fun b o hlt => hb.cell (p := ⟨b, o, none⟩) hlt
  exact ⟨(c _ _ (by omega)).trans h1, (c _ _ (by omega)).trans h2, ⟨fun k hk => (c _ _ (by omega)).trans (h3 k hk), fun k hk => (c _ _ (by omega)).trans (h3' k hk)⟩, h4.trans (hb.mono (by omega)), Nat.lt_of_lt_of_le h5 hb.size⟩

theorem kCells_new (w : World) : kCells w.heap.size ((w.alloc (Obj.cells #[.int .u64 0, .int .u64 1, .int .u64 2, .int .u64 3, .int .u64 10, .int .u64 18446744073709551615, .int .u64 9223372036854775808] 22)).alloc
    (Obj.cells #[.int .u64 0, .int .u64 0, .int .u64 16777216, .int .u64 26591258, .int .u64 55732705, .int .u64 1073741823, .int .u64 1056964608] 22)) := by
  have a1 := World.alloc_heap_new w (Obj.cells #[.int .u64 0, .int .u64 1, .int .u64 2, .int .u64 3, .int .u64 10, .int .u64 18446744073709551615, .int .u64 9223372036854775808] 22)
  have a2 := World.alloc_heap_new (w.alloc (Obj.cells #[.int .u64 0, .int .u64 1, .int .u64 2, .int .u64 3, .int .u64 10, .int .u64 18446744073709551615, .int .u64 9223372036854775808] 22)) (Obj.cells #[.int .u64 0, .int .u64 0, .int .u64 16777216, .int .u64 26591258, .int .u64 55732705, .int .u64 1073741823, .int .u64 1056964608] 22)
  rw [World.size_alloc] at a2
  have a1' := (Below.heap_alloc (w.alloc (Obj.cells #[.int .u64 0, .int .u64 1, .int .u64 2, .int .u64 3, .int .u64 10, .int .u64 18446744073709551615, .int .u64 9223372036854775808] 22)) (Obj.cells #[.int .u64 0, .int .u64 0, .int .u64 16777216, .int .u64 26591258, .int .u64 55732705, .int .u64 1073741823, .int .u64 1056964608] 22) w.heap.size (by simp)).trans a1
  refine ⟨fun k hk => ?_, fun k hk => ?_⟩
  · simp only [World.cell?, a1']
    have : k = 0 ∨ k = 1 ∨ k = 2 ∨ k = 3 ∨ k = 4 ∨ k = 5 ∨ k = 6 := by omega
    rcases this with rfl | rfl | rfl | rfl | rfl | rfl | rfl <;> rfl
  · simp only [World.cell?, a2]
    have : k = 0 ∨ k = 1 ∨ k = 2 ∨ k = 3 ∨ k = 4 ∨ k = 5 ∨ k = 6 := by omega
    rcases this with rfl | rfl | rfl | rfl | rfl | rfl | rfl <;> rfl

set_option maxHeartbeats 1000000 in
theorem Log2Known_walk (w : World) :
    Calls Try.prog 7 #[] w fun e w' => e = .returned (.bool true) ∧ Below w.heap.size w w' := by
  go_enter Try.func7, Try.ntmps7
  go_wp2_with fail
  go_loopw [3] (fun i wr => ∃ k : Nat, k ≤ 7 ∧ i = .int .i64 k ∧ kCells w.heap.size wr ∧ Below w.heap.size w wr ∧ w.heap.size + 1 < wr.heap.size) (fun i _ => 7 - (intOf i).toNat)
  case atStart =>
    exact ⟨0, by omega, rfl, kCells_new w, ((Below.refl _ w).alloc (Nat.le_refl _) _).alloc (by simp) _, by simp⟩
  case round =>
    obtain ⟨k, hk, rfl, hc, hb, hs⟩ := hrel
    by_cases hlt : k < 7
    · have c1 := hc.1 k hlt
      have c2 := hc.2 k hlt
      have b1 := kX_lt k hlt
      have b2 := kL_lt k hlt
      have H1 := Lib.hid (fun w => k_lo k hlt ▸ lo_any (kX k) w b1)
      have H2 := Lib.hid (fun w => k_hi k hlt ▸ hi_any (kX k) w b1)
      have K : kAll w.heap.size w wr := ⟨hc, hb, hs⟩
      clear hc hb hs
      generalize kX k = x at *
      generalize kL k = l at *
      by_cases hx : x = 0
      · have h0 : ((x : Int) == 0) = true := by simp; omega
        rw [if_pos hx] at H2
        clear hx
        go_wp2_with fail
        go_region_held3 (fun w' => w'.cell? ⟨w.heap.size, k, none⟩ = some (.int .u64 x) ∧ w'.cell? ⟨w.heap.size + 1, k, none⟩ = some (.int .u64 l) ∧ kAll w.heap.size w w') (first | exact kS_drew ⟨c1, c2, K⟩ | exact kS_keep (by assumption) (by assumption)) (first | (go_at_call 8; refine (H1.out _).mono ?_; rintro e w' ⟨rfl, hbb⟩) | (go_at_call 10; refine (H2.out _).mono ?_; rintro e w' ⟨rfl, hbb⟩))
        rename_i hHeld
        obtain ⟨_, _, K'⟩ := hHeld
        clear c1 c2 K
        go_wp2
        go_roundw
        case rel => exact ⟨k + 1, by omega, by go_num, K'.1, K'.2.1, K'.2.2⟩
        case measure => simp [intOf]; omega
      · have h0 : ((x : Int) == 0) = false := by simp; omega
        rw [if_neg hx] at H2
        clear hx
        go_wp2_with fail
        go_region_held3 (fun w' => w'.cell? ⟨w.heap.size, k, none⟩ = some (.int .u64 x) ∧ w'.cell? ⟨w.heap.size + 1, k, none⟩ = some (.int .u64 l) ∧ kAll w.heap.size w w') (first | exact kS_drew ⟨c1, c2, K⟩ | exact kS_keep (by assumption) (by assumption)) (first | (go_at_call 8; refine (H1.out _).mono ?_; rintro e w' ⟨rfl, hbb⟩) | (go_at_call 10; refine (H2.out _).mono ?_; rintro e w' ⟨rfl, hbb⟩))
        rename_i hHeld
        obtain ⟨_, _, K'⟩ := hHeld
        clear c1 c2 K
        go_wp2
        go_roundw
        case rel => exact ⟨k + 1, by omega, by go_num, K'.1, K'.2.1, K'.2.2⟩
        case measure => simp [intOf]; omega
    · obtain rfl : k = 7 := by omega
      go_wp2_with fail
      refine (works_any _).mono ?_
      rintro e w1 ⟨rfl, hb1⟩
      go_wp2_with fail
      go_ret
      exact ⟨rfl, hb.trans (hb1.mono hb.size)⟩

end Go.Proofs.Ytccnjmeakbnngaa
