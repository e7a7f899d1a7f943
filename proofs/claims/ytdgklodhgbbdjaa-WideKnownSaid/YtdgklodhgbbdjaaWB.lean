/- Walk: Shl. -/
import Derived.Test.YtdgklodhgbbdjaaWA
import Derived.Test.YtdgklodhgbbdjaaWEq
import Derived.RegionTactic
import Derived.Laws.Bits64b
namespace Go.Proofs.Ytdgklodhgbbdjaa
set_option linter.unusedVariables false
set_option linter.unusedSimpArgs false
open Go Go.RowKit Go.Shelf

theorem RowAt.four {W : World} {t g : Nat} {a b c d : Nat} (h : RowAt W t g 4 (U [a, b, c, d])) :
    (W.cell? ⟨g, 0, none⟩ = some (.int .u64 (a : Nat)) ∧ W.cell? ⟨g, 1, none⟩ = some (.int .u64 (b : Nat)) ∧ W.cell? ⟨g, 2, none⟩ = some (.int .u64 (c : Nat)) ∧ W.cell? ⟨g, 3, none⟩ = some (.int .u64 (d : Nat))) ∧
    (W.frozen? ⟨g, 0, none⟩ = false ∧ W.frozen? ⟨g, 1, none⟩ = false ∧ W.frozen? ⟨g, 2, none⟩ = false ∧ W.frozen? ⟨g, 3, none⟩ = false) :=
  ⟨⟨h.u64 (k := 0) (show 0 < 4 by decide), h.u64 (k := 1) (show 1 < 4 by decide), h.u64 (k := 2) (show 2 < 4 by decide), h.u64 (k := 3) (show 3 < 4 by decide)⟩, h.frozen 0, h.frozen 1, h.frozen 2, h.frozen 3⟩

/-- Limbs shifted up by less than one: place j. -/
def shlAt (us : List Nat) (k j : Nat) : Nat := us.getD j 0 * 2 ^ k % 18446744073709551616 ||| (if j = 0 then 0 else us.getD (j - 1) 0 / 2 ^ (64 - k))

/-- The first i of four, by f, the others 0. -/
def fillTo (f : Nat → Nat) (i : Nat) : List Nat := (List.range 4).map fun j => if j < i then f j else 0

theorem fillTo_len (f : Nat → Nat) (i : Nat) : (fillTo f i).length = 4 := by simp [fillTo]

theorem fillTo_next (f : Nat → Nat) (i : Nat) (h : i < 4) : (fillTo f i).set i (f i) = fillTo f (i + 1) := by
  apply List.ext_getElem?
  intro j
  rw [List.getElem?_set, fillTo_len]
  unfold fillTo
  rw [List.getElem?_map, List.getElem?_map]
  by_cases hj : j < 4
  · rw [List.getElem?_range hj]
    by_cases e : i = j
    · subst e
      rw [if_pos rfl, if_pos h]
      simp
    · rw [if_neg e]
      simp only [Option.map_some, Option.some.injEq]
      by_cases h2 : j < i
      · rw [if_pos h2, if_pos (by omega)]
      · rw [if_neg h2, if_neg (by omega)]
  · have hr : (List.range 4)[j]? = none := List.getElem?_eq_none (by simpa using hj)
    by_cases e : i = j
    · omega
    · rw [if_neg e, hr]; rfl

theorem fillTo_zero (f : Nat → Nat) : fillTo f 0 = [0, 0, 0, 0] := by rfl

theorem set_set (ns : List Nat) (j x y : Nat) : (ns.set j x).set j y = ns.set j y := by rw [List.set_set]

/-- What Shl answers. -/
def shlOf (us : List Nat) (k : Nat) : List Nat := if k = 0 then us else fillTo (shlAt us k) 4

theorem or_u64 (x y : Nat) (hx : x < 18446744073709551616) (hy : y < 18446744073709551616) : bits .or .u64 (x : Int) (y : Int) = ((x ||| y : Nat) : Int) := bits_or_u64_nat x y hx hy

theorem wrap_shl (x k X : Nat) (h : X = x * 2 ^ k % 18446744073709551616) : IntKind.u64.wrap ((x : Int) * 2 ^ k) = (X : Int) := by
  have e : ((x * 2 ^ k : Nat) : Int) = (x : Int) * 2 ^ k := by push_cast; rfl
  rw [IntKind.wrap_u64, h, ← e]
  generalize x * 2 ^ k = t
  omega
theorem div_pow (y r Y : Nat) (h : Y = y / 2 ^ r) : (y : Int) / 2 ^ r = (Y : Int) := by
  rw [h]; push_cast; rfl

set_option maxRecDepth 100000 in
set_option maxHeartbeats 2000000 in
theorem shl_any (a b c d n s q k : Nat) (us : List Nat) (ov : Bool) (hus : us = movedTo [a, b, c, d] (q : Int) 4) (hul : ∀ x ∈ us, x < 18446744073709551616) (hov : ov = (decide (256 < s + n) && !decide ([a, b, c, d] = [0, 0, 0, 0]))) (hs : sizeTo [a, b, c, d] 4 = s) (hs1 : s ≤ 256) (hq : q ≤ 4) (hk : k < 64) (hn : n < 320) (hnq : n / 64 = q) (hnk : n % 64 = k) (w : World) (hu : ∀ x ∈ [a, b, c, d], x < 18446744073709551616) :
    Calls Try.prog 8 #[.agg #[.int .u64 a, .int .u64 b, .int .u64 c, .int .u64 d], .int .u64 n] w fun e w' => e = .returned (.tuple #[.agg (U (shlOf us k)).toArray, .bool ov]) ∧ Below w.heap.size w w' := by
  have BL := Shut.mk (fun (W : World) => bitlen_any a b c d W hu)
  have MV := Shut.mk (fun (W : World) => moved_any a b c d (q : Int) (by omega) W)
  rw [hs] at BL
  have R0 : Shut (RowAt (w.alloc (.cells #[.int .u64 a, .int .u64 b, .int .u64 c, .int .u64 d] 24)) 24 w.heap.size 4 (U [a, b, c, d])) := ⟨RowAt.arr w 24 [a, b, c, d] (show 4 < 1000000 by decide)⟩
  have R1' := RowAt.arr (w.alloc (.cells #[.int .u64 a, .int .u64 b, .int .u64 c, .int .u64 d] 24)) 24 [0, 0, 0, 0] (by decide)
  rw [World.size_alloc] at R1'
  have R1 : Shut (RowAt ((w.alloc (.cells #[.int .u64 a, .int .u64 b, .int .u64 c, .int .u64 d] 24)).alloc (.cells #[.int .u64 0, .int .u64 0, .int .u64 0, .int .u64 0] 24)) 24 (w.heap.size + 1) 4 (U [0, 0, 0, 0])) := ⟨R1'⟩
  have B0 := Shut.mk (((Below.refl w.heap.size w).alloc (Nat.le_refl _) (.cells #[.int .u64 a, .int .u64 b, .int .u64 c, .int .u64 d] 24)).alloc (by simp) (.cells #[.int .u64 0, .int .u64 0, .int .u64 0, .int .u64 0] 24))
  obtain ⟨z, hz⟩ : ∃ z : Bool, z = decide ([a, b, c, d] = [0, 0, 0, 0]) := ⟨_, rfl⟩
  have EQ : ∀ W : World, (Op.equalIn 10000 24 (.agg #[.int .u64 a, .int .u64 b, .int .u64 c, .int .u64 d]) (.agg #[.int .u64 0, .int .u64 0, .int .u64 0, .int .u64 0])).run Try.prog W = .ok z W := fun W => by
    rw [hz]; exact run_eq_arr 24 4 Try.underlying24 [a, b, c, d] [0, 0, 0, 0] rfl rfl 9998 W
  rw [← hz] at hov
  have hmin : min (n : Int) 512 = (n : Int) := by omega
  have hmin2 : min (q : Int) 4 = (q : Int) := by omega
  have hq1 : (n : Int) / 64 = (q : Int) := by omega
  have hk1 : (n : Int) % 64 = (k : Int) := by omega
  have hUL : us.length = 4 := by rw [hus]; exact movedTo_len _ _ _
  have HUL := Shut.mk hul
  rw [← hus] at MV
  obtain ⟨u0, u1, u2, u3, hu4⟩ := list4 hUL
  rw [hu4] at MV HUL ⊢
  have HOV := Shut.mk hov
  clear hs hu hnq hnk R1' hz hus hul hUL hu4 hov
  go_enter Try.func8, Try.ntmps8
  go_wp2_with fail
  refine (BL.out _).mono ?_
  rintro e w1 ⟨rfl, hb⟩
  obtain ⟨⟨c0, c1, c2, c3⟩, _⟩ := (((R0.out.alloc _).below hb)).four
  have RB := Shut.mk ((R0.out.alloc _).below hb)
  have RA := Shut.mk (R1.out.below hb)
  have B1 := Shut.mk (below3 B0.out (hb.mono (by simp)))
  clear hb
  by_cases h1 : (s : Int) + (n : Int) > 256
  · obtain rfl : ov = !z := by rw [HOV.out, decide_eq_true (by omega)]; simp
    go_wp2_with fail
    refine (MV.out _).mono ?_
    rintro e w2 ⟨rfl, hb⟩
    have RB2 := Shut.mk (RB.out.below hb)
    have RA2 := Shut.mk (RA.out.below hb)
    have B2 := Shut.mk (below3 B1.out hb)
    clear hb
    have RA3 := Shut.mk (RA2.out.alloc (.cells #[.int .u64 u0, .int .u64 u1, .int .u64 u2, .int .u64 u3] 24))
    have RU3 : Shut (RowAt (w2.alloc (.cells #[.int .u64 u0, .int .u64 u1, .int .u64 u2, .int .u64 u3] 24)) 24 w2.heap.size 4 (U [u0, u1, u2, u3])) := ⟨RowAt.arr w2 24 [u0, u1, u2, u3] (show 4 < 1000000 by decide)⟩
    have B3 := Shut.mk (B2.out.alloc B2.out.size (.cells #[.int .u64 u0, .int .u64 u1, .int .u64 u2, .int .u64 u3] 24))
    have NEW : Shut (w.heap.size + 1 < w2.heap.size) := ⟨RA2.out.lt⟩
    by_cases hk0 : k = 0
    · subst hk0
      obtain ⟨⟨a0, a1, a2, a3⟩, z0, z1, z2, z3⟩ := RA3.out.four
      go_wp2_with fail
      refine bodyPost_ret (v := .tuple #[.agg #[.int .u64 u0, .int .u64 u1, .int .u64 u2, .int .u64 u3], .bool (!z)]) (by simp [results, Try.results8, go_sem, a0, a1, a2, a3]) rfl ⟨by unfold shlOf; rw [if_pos rfl]; rfl, ?_⟩
      exact (((B3.out.setCell (p := ⟨w.heap.size + 1, 0, none⟩) (by simp) _).setCell (p := ⟨w.heap.size + 1, 1, none⟩) (by simp) _).setCell (p := ⟨w.heap.size + 1, 2, none⟩) (by simp) _).setCell (p := ⟨w.heap.size + 1, 3, none⟩) (by simp) _
    · have hk00 : ((k : Int) == 0) = false := by rw [beq_eq_false_iff_ne]; omega
      have HK0 := Shut.mk hk0
      go_wp2_with fail
      go_loopw [33] (fun i wr => ∃ j : Nat, j ≤ 4 ∧ i = .int .i64 j ∧ RowAt wr 24 (w.heap.size + 1) 4 (U (fillTo (shlAt [u0, u1, u2, u3] k) j)) ∧ RowAt wr 24 w2.heap.size 4 (U [u0, u1, u2, u3]) ∧ Below w.heap.size w wr) (fun i _ => 4 - (intOf i).toNat)
      case atStart => exact ⟨0, by omega, rfl, RA3.out, RU3.out, B3.out⟩
      case round =>
        obtain ⟨j, hj, rfl, hr1, hr0, hb⟩ := hrel
        by_cases hj4 : j < 4
        · have hj5 : (j : Int) < 4 := by omega
          have cu := hr0.u64 (k := j) hj4
          have ca := hr1.u64 (k := j) (by rw [fillTo_len]; exact hj4)
          have fj := hr1.frozen j
          have hxl : [u0, u1, u2, u3].getD j 0 < 18446744073709551616 := HUL.out _ (getD_mem _ _ hj4)
          obtain ⟨X, hX⟩ : ∃ X : Nat, X = [u0, u1, u2, u3].getD j 0 * 2 ^ k % 18446744073709551616 := ⟨_, rfl⟩
          have hXl : X < 18446744073709551616 := by rw [hX]; exact Nat.mod_lt _ (by decide)
          have hwX : IntKind.u64.wrap (([u0, u1, u2, u3].getD j 0 : Int) * 2 ^ k) = (X : Int) := wrap_shl _ _ _ hX
          by_cases hj0 : j = 0
          · have hA : shlAt [u0, u1, u2, u3] k j = X := by unfold shlAt; rw [if_pos hj0, Nat.or_zero, hX]
            have hj1 : ¬ (j : Int) > 0 := by omega
            have RA4 : Shut (RowAt (wr.setCell ⟨w.heap.size + 1, j, none⟩ (.int .u64 (X : Nat))) 24 (w.heap.size + 1) 4 (U (fillTo (shlAt [u0, u1, u2, u3] k) (j + 1)))) := ⟨by
              rw [← fillTo_next _ _ hj4, hA]
              have := hr1.set_ j (.int .u64 (X : Nat))
              rwa [U_set] at this⟩
            have RB4 := Shut.mk (hr0.far (p := ⟨w.heap.size + 1, j, none⟩) (by have := NEW.out; simp; omega) (.int .u64 (X : Nat)))
            have BB4 := Shut.mk (hb.setCell (p := ⟨w.heap.size + 1, j, none⟩) (by simp) (.int .u64 (X : Nat)))
            generalize [u0, u1, u2, u3].getD j 0 = x at *
            generalize (fillTo (shlAt [u0, u1, u2, u3] k) j).getD j 0 = v at *
            clear hr1 hr0 hb hX hA hxl hXl hj0
            go_wp2_with fail
            go_roundw
            case rel => exact ⟨j + 1, by omega, by go_num, RA4.out, RB4.out, BB4.out⟩
            case measure => simp [intOf]; omega
          · obtain ⟨m, hm⟩ : ∃ m, j = m + 1 := ⟨j - 1, by omega⟩
            have cm := hr0.u64 (k := m) (show m < 4 by omega)
            have hjm : (j : Int) - 1 = (m : Int) := by omega
            have hm4 : (m : Int) < 4 := by omega
            have hj1 : (j : Int) > 0 := by omega
            obtain ⟨r, hr⟩ : ∃ r, r = 64 - k := ⟨_, rfl⟩
            have h64 : (64 : Int) - (k : Int) = (r : Int) := by omega
            have hyl : [u0, u1, u2, u3].getD m 0 < 18446744073709551616 := HUL.out _ (getD_mem _ _ (show m < 4 by omega))
            obtain ⟨Y, hY⟩ : ∃ Y : Nat, Y = [u0, u1, u2, u3].getD m 0 / 2 ^ r := ⟨_, rfl⟩
            have hYl : Y < 18446744073709551616 := by rw [hY]; exact Nat.lt_of_le_of_lt (Nat.div_le_self _ _) hyl
            have hwY : (([u0, u1, u2, u3].getD m 0 : Nat) : Int) / 2 ^ r = (Y : Int) := div_pow _ _ _ hY
            have hO := or_u64 X Y hXl hYl
            have hA : shlAt [u0, u1, u2, u3] k j = X ||| Y := by unfold shlAt; rw [if_neg hj0, hX, hY, hr, hm, Nat.add_sub_cancel]
            have RA4 : Shut (∀ W : World, W = ((wr.setCell ⟨w.heap.size + 1, j, none⟩ (.int .u64 (X : Nat))).setCell ⟨w.heap.size + 1, j, none⟩ (.int .u64 (X ||| Y : Nat))) → RowAt W 24 (w.heap.size + 1) 4 (U (fillTo (shlAt [u0, u1, u2, u3] k) (j + 1)))) := ⟨fun W hW => by
              rw [hW, ← fillTo_next _ _ hj4, hA, ← set_set _ j X]
              have := (hr1.set_ j (.int .u64 (X : Nat))).set_ j (.int .u64 (X ||| Y : Nat))
              rwa [U_set, U_set] at this⟩
            have RB4 := Shut.mk ((hr0.far (p := ⟨w.heap.size + 1, j, none⟩) (by have := NEW.out; simp; omega) (.int .u64 (X : Nat))).far (p := ⟨w.heap.size + 1, j, none⟩) (by have := NEW.out; simp; omega) (.int .u64 (X ||| Y : Nat)))
            have BB4 := Shut.mk ((hb.setCell (p := ⟨w.heap.size + 1, j, none⟩) (by simp) (.int .u64 (X : Nat))).setCell (p := ⟨w.heap.size + 1, j, none⟩) (by simp) (.int .u64 (X ||| Y : Nat)))
            generalize [u0, u1, u2, u3].getD j 0 = x at *
            generalize [u0, u1, u2, u3].getD m 0 = y at *
            generalize (fillTo (shlAt [u0, u1, u2, u3] k) j).getD j 0 = v at *
            generalize X ||| Y = O at *
            clear hr1 hr0 hb hX hr hm hY hA hxl hyl hXl hYl hj0
            go_wp2_with fail
            go_region
            go_wp2_with fail
            go_roundw
            case rel => exact ⟨j + 1, by omega, by go_num, (RA4.out _ rfl).drew, RB4.out.drew, below_drewN BB4.out 1⟩
            case measure => simp [intOf]; omega
        · obtain rfl : j = 4 := by omega
          obtain ⟨o0, o1, o2, o3, ho⟩ := list4 (fillTo_len (shlAt [u0, u1, u2, u3] k) 4)
          rw [ho] at hr1
          have HO := Shut.mk ho
          have BB := Shut.mk hb
          rw [show ((4 : Nat) : Int) = 4 from rfl]
          obtain ⟨⟨a0, a1, a2, a3⟩, z0, z1, z2, z3⟩ := hr1.four
          clear hr1 hr0 hb ho hj4
          go_wp2_with fail
          refine bodyPost_ret (v := .tuple #[.agg #[.int .u64 o0, .int .u64 o1, .int .u64 o2, .int .u64 o3], .bool (!z)]) (by simp [results, Try.results8, go_sem, a0, a1, a2, a3]) rfl ⟨by unfold shlOf; rw [if_neg HK0.out, HO.out]; rfl, ?_⟩
          exact (((BB.out.setCell (p := ⟨w.heap.size + 1, 0, none⟩) (by simp) _).setCell (p := ⟨w.heap.size + 1, 1, none⟩) (by simp) _).setCell (p := ⟨w.heap.size + 1, 2, none⟩) (by simp) _).setCell (p := ⟨w.heap.size + 1, 3, none⟩) (by simp) _
  · obtain rfl : ov = false := by rw [HOV.out, decide_eq_false (by omega)]; simp
    go_wp2_with fail
    refine (MV.out _).mono ?_
    rintro e w2 ⟨rfl, hb⟩
    have RB2 := Shut.mk (RB.out.below hb)
    have RA2 := Shut.mk (RA.out.below hb)
    have B2 := Shut.mk (below3 B1.out hb)
    clear hb
    have RA3 := Shut.mk (RA2.out.alloc (.cells #[.int .u64 u0, .int .u64 u1, .int .u64 u2, .int .u64 u3] 24))
    have RU3 : Shut (RowAt (w2.alloc (.cells #[.int .u64 u0, .int .u64 u1, .int .u64 u2, .int .u64 u3] 24)) 24 w2.heap.size 4 (U [u0, u1, u2, u3])) := ⟨RowAt.arr w2 24 [u0, u1, u2, u3] (show 4 < 1000000 by decide)⟩
    have B3 := Shut.mk (B2.out.alloc B2.out.size (.cells #[.int .u64 u0, .int .u64 u1, .int .u64 u2, .int .u64 u3] 24))
    have NEW : Shut (w.heap.size + 1 < w2.heap.size) := ⟨RA2.out.lt⟩
    by_cases hk0 : k = 0
    · subst hk0
      obtain ⟨⟨a0, a1, a2, a3⟩, z0, z1, z2, z3⟩ := RA3.out.four
      go_wp2_with fail
      refine bodyPost_ret (v := .tuple #[.agg #[.int .u64 u0, .int .u64 u1, .int .u64 u2, .int .u64 u3], .bool false]) (by simp [results, Try.results8, go_sem, a0, a1, a2, a3]) rfl ⟨by unfold shlOf; rw [if_pos rfl]; rfl, ?_⟩
      exact (((B3.out.setCell (p := ⟨w.heap.size + 1, 0, none⟩) (by simp) _).setCell (p := ⟨w.heap.size + 1, 1, none⟩) (by simp) _).setCell (p := ⟨w.heap.size + 1, 2, none⟩) (by simp) _).setCell (p := ⟨w.heap.size + 1, 3, none⟩) (by simp) _
    · have hk00 : ((k : Int) == 0) = false := by rw [beq_eq_false_iff_ne]; omega
      have HK0 := Shut.mk hk0
      go_wp2_with fail
      go_loopw [33] (fun i wr => ∃ j : Nat, j ≤ 4 ∧ i = .int .i64 j ∧ RowAt wr 24 (w.heap.size + 1) 4 (U (fillTo (shlAt [u0, u1, u2, u3] k) j)) ∧ RowAt wr 24 w2.heap.size 4 (U [u0, u1, u2, u3]) ∧ Below w.heap.size w wr) (fun i _ => 4 - (intOf i).toNat)
      case atStart => exact ⟨0, by omega, rfl, RA3.out, RU3.out, B3.out⟩
      case round =>
        obtain ⟨j, hj, rfl, hr1, hr0, hb⟩ := hrel
        by_cases hj4 : j < 4
        · have hj5 : (j : Int) < 4 := by omega
          have cu := hr0.u64 (k := j) hj4
          have ca := hr1.u64 (k := j) (by rw [fillTo_len]; exact hj4)
          have fj := hr1.frozen j
          have hxl : [u0, u1, u2, u3].getD j 0 < 18446744073709551616 := HUL.out _ (getD_mem _ _ hj4)
          obtain ⟨X, hX⟩ : ∃ X : Nat, X = [u0, u1, u2, u3].getD j 0 * 2 ^ k % 18446744073709551616 := ⟨_, rfl⟩
          have hXl : X < 18446744073709551616 := by rw [hX]; exact Nat.mod_lt _ (by decide)
          have hwX : IntKind.u64.wrap (([u0, u1, u2, u3].getD j 0 : Int) * 2 ^ k) = (X : Int) := wrap_shl _ _ _ hX
          by_cases hj0 : j = 0
          · have hA : shlAt [u0, u1, u2, u3] k j = X := by unfold shlAt; rw [if_pos hj0, Nat.or_zero, hX]
            have hj1 : ¬ (j : Int) > 0 := by omega
            have RA4 : Shut (RowAt (wr.setCell ⟨w.heap.size + 1, j, none⟩ (.int .u64 (X : Nat))) 24 (w.heap.size + 1) 4 (U (fillTo (shlAt [u0, u1, u2, u3] k) (j + 1)))) := ⟨by
              rw [← fillTo_next _ _ hj4, hA]
              have := hr1.set_ j (.int .u64 (X : Nat))
              rwa [U_set] at this⟩
            have RB4 := Shut.mk (hr0.far (p := ⟨w.heap.size + 1, j, none⟩) (by have := NEW.out; simp; omega) (.int .u64 (X : Nat)))
            have BB4 := Shut.mk (hb.setCell (p := ⟨w.heap.size + 1, j, none⟩) (by simp) (.int .u64 (X : Nat)))
            generalize [u0, u1, u2, u3].getD j 0 = x at *
            generalize (fillTo (shlAt [u0, u1, u2, u3] k) j).getD j 0 = v at *
            clear hr1 hr0 hb hX hA hxl hXl hj0
            go_wp2_with fail
            go_roundw
            case rel => exact ⟨j + 1, by omega, by go_num, RA4.out, RB4.out, BB4.out⟩
            case measure => simp [intOf]; omega
          · obtain ⟨m, hm⟩ : ∃ m, j = m + 1 := ⟨j - 1, by omega⟩
            have cm := hr0.u64 (k := m) (show m < 4 by omega)
            have hjm : (j : Int) - 1 = (m : Int) := by omega
            have hm4 : (m : Int) < 4 := by omega
            have hj1 : (j : Int) > 0 := by omega
            obtain ⟨r, hr⟩ : ∃ r, r = 64 - k := ⟨_, rfl⟩
            have h64 : (64 : Int) - (k : Int) = (r : Int) := by omega
            have hyl : [u0, u1, u2, u3].getD m 0 < 18446744073709551616 := HUL.out _ (getD_mem _ _ (show m < 4 by omega))
            obtain ⟨Y, hY⟩ : ∃ Y : Nat, Y = [u0, u1, u2, u3].getD m 0 / 2 ^ r := ⟨_, rfl⟩
            have hYl : Y < 18446744073709551616 := by rw [hY]; exact Nat.lt_of_le_of_lt (Nat.div_le_self _ _) hyl
            have hwY : (([u0, u1, u2, u3].getD m 0 : Nat) : Int) / 2 ^ r = (Y : Int) := div_pow _ _ _ hY
            have hO := or_u64 X Y hXl hYl
            have hA : shlAt [u0, u1, u2, u3] k j = X ||| Y := by unfold shlAt; rw [if_neg hj0, hX, hY, hr, hm, Nat.add_sub_cancel]
            have RA4 : Shut (∀ W : World, W = ((wr.setCell ⟨w.heap.size + 1, j, none⟩ (.int .u64 (X : Nat))).setCell ⟨w.heap.size + 1, j, none⟩ (.int .u64 (X ||| Y : Nat))) → RowAt W 24 (w.heap.size + 1) 4 (U (fillTo (shlAt [u0, u1, u2, u3] k) (j + 1)))) := ⟨fun W hW => by
              rw [hW, ← fillTo_next _ _ hj4, hA, ← set_set _ j X]
              have := (hr1.set_ j (.int .u64 (X : Nat))).set_ j (.int .u64 (X ||| Y : Nat))
              rwa [U_set, U_set] at this⟩
            have RB4 := Shut.mk ((hr0.far (p := ⟨w.heap.size + 1, j, none⟩) (by have := NEW.out; simp; omega) (.int .u64 (X : Nat))).far (p := ⟨w.heap.size + 1, j, none⟩) (by have := NEW.out; simp; omega) (.int .u64 (X ||| Y : Nat)))
            have BB4 := Shut.mk ((hb.setCell (p := ⟨w.heap.size + 1, j, none⟩) (by simp) (.int .u64 (X : Nat))).setCell (p := ⟨w.heap.size + 1, j, none⟩) (by simp) (.int .u64 (X ||| Y : Nat)))
            generalize [u0, u1, u2, u3].getD j 0 = x at *
            generalize [u0, u1, u2, u3].getD m 0 = y at *
            generalize (fillTo (shlAt [u0, u1, u2, u3] k) j).getD j 0 = v at *
            generalize X ||| Y = O at *
            clear hr1 hr0 hb hX hr hm hY hA hxl hyl hXl hYl hj0
            go_wp2_with fail
            go_region
            go_wp2_with fail
            go_roundw
            case rel => exact ⟨j + 1, by omega, by go_num, (RA4.out _ rfl).drew, RB4.out.drew, below_drewN BB4.out 1⟩
            case measure => simp [intOf]; omega
        · obtain rfl : j = 4 := by omega
          obtain ⟨o0, o1, o2, o3, ho⟩ := list4 (fillTo_len (shlAt [u0, u1, u2, u3] k) 4)
          rw [ho] at hr1
          have HO := Shut.mk ho
          have BB := Shut.mk hb
          rw [show ((4 : Nat) : Int) = 4 from rfl]
          obtain ⟨⟨a0, a1, a2, a3⟩, z0, z1, z2, z3⟩ := hr1.four
          clear hr1 hr0 hb ho hj4
          go_wp2_with fail
          refine bodyPost_ret (v := .tuple #[.agg #[.int .u64 o0, .int .u64 o1, .int .u64 o2, .int .u64 o3], .bool false]) (by simp [results, Try.results8, go_sem, a0, a1, a2, a3]) rfl ⟨by unfold shlOf; rw [if_neg HK0.out, HO.out]; rfl, ?_⟩
          exact (((BB.out.setCell (p := ⟨w.heap.size + 1, 0, none⟩) (by simp) _).setCell (p := ⟨w.heap.size + 1, 1, none⟩) (by simp) _).setCell (p := ⟨w.heap.size + 1, 2, none⟩) (by simp) _).setCell (p := ⟨w.heap.size + 1, 3, none⟩) (by simp) _

end Go.Proofs.Ytdgklodhgbbdjaa
