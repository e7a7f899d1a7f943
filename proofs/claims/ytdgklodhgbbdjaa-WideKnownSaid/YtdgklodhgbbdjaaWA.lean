/- Walks: size, BitLen, moved. -/
import Derived.Test.YtdgklodhgbbdjaaWGen
import Derived.Test.YtdgklodhgbbdjaaShelf
namespace Go.Proofs.Ytdgklodhgbbdjaa
set_option linter.unusedVariables false
set_option linter.unusedSimpArgs false
open Go Go.RowKit Go.Shelf

theorem bitLen_le64 (x : Nat) (h : x < 18446744073709551616) : Lib.bitLen x ≤ 64 := Lib.bitLen_le x 64 (by omega) (by omega)

/-- The bits of limbs, from the k-th down. -/
def sizeTo (ns : List Nat) : Nat → Nat
  | 0 => 0
  | k + 1 => if ns.getD k 0 ≠ 0 then k * 64 + Lib.bitLen (ns.getD k 0) else sizeTo ns k

set_option maxRecDepth 100000 in
theorem size_any (t g : Nat) (ns : List Nat) (n c : Nat) (w : World) (hr : RowAt w t g c (U ns)) (hn : ns.length = n) (h1 : n < 1000) (hu : ∀ x ∈ ns, x < 18446744073709551616) :
    Calls Try.prog 38 #[.slice (some ⟨g, 0, none⟩) n c] w fun e w' => e = .returned (.int .i64 (sizeTo ns n : Nat)) ∧ w = w' := by
  have C := Shut.mk (fun k (hk : k < n) => hr.u64 (k := k) (by omega))
  have L := Shut.mk (fun k (hk : k < n) (W : World) => Try.bits_Len64 (ns.getD k 0 : Nat) W (by omega) (by have := hu _ (getD_mem ns k (by omega)); omega))
  have HU := Shut.mk hu
  clear hr
  go_enter Try.func38, Try.ntmps38
  go_wp2_with fail
  go_loop [3] (fun i => ∃ k : Nat, k ≤ n ∧ i = .int .i64 ((k : Int) - 1) ∧ sizeTo ns n = sizeTo ns k) (fun i => (intOf i + 1).toNat)
  case atStart => exact ⟨n, by omega, rfl, rfl⟩
  case round =>
    obtain ⟨k, hk, rfl, he⟩ := hrel
    have HE := Shut.mk he
    clear he
    cases k with
    | zero =>
      have h0 : ¬ ((0 : Int) - 1 ≥ 0) := by omega
      go_wp2_with fail
      go_ret
      exact ⟨by rw [HE.out]; rfl, rfl⟩
    | succ k =>
      have hkn : (k : Int) < (n : Int) := by omega
      have ck := C.out k (by omega)
      have LK := Shut.mk (L.out k (by omega))
      rw [show ((k + 1 : Nat) : Int) - 1 = (k : Int) by omega]
      by_cases h0 : ns.getD k 0 = 0
      · have R : Shut (sizeTo ns n = sizeTo ns k) := ⟨by rw [HE.out, sizeTo, if_neg (fun h => h h0)]⟩
        rw [h0] at ck
        clear h0
        go_wp2_with fail
        go_round
        case rel => exact ⟨k, by omega, rfl, R.out⟩
        case measure => simp [intOf]
      · have R : Shut (sizeTo ns n = k * 64 + Lib.bitLen (ns.getD k 0)) := ⟨by rw [HE.out, sizeTo, if_pos h0]⟩
        have e1 : (((ns.getD k 0 : Nat) : Int) != 0) = true := by rw [bne_iff_ne]; omega
        have BL := bitLen_le64 (ns.getD k 0) (HU.out _ (getD_mem ns k (by omega)))
        generalize ns.getD k 0 = y at *
        rw [Int.toNat_natCast] at LK
        generalize Lib.bitLen y = b at *
        clear h0 hu
        go_wp2_with fail
        refine (LK.out _).mono ?_
        rintro e w1 ⟨rfl, rfl⟩
        go_wp2_with fail
        go_ret
        exact ⟨by rw [R.out]; simp, rfl⟩

theorem RowAt.arr (w : World) (t : TypeId) (ns : List Nat) (h : ns.length < 1000000) : RowAt (w.alloc (.cells (U ns).toArray t)) t w.heap.size ns.length (U ns) := by
  have := RowAt.new w t (U ns) (Nat.le_of_succ_le (maxLen_big _ (by simpa using h)))
  rwa [show (U ns).length = ns.length by simp] at this

/-- The value of four limbs, as an array. -/
def A4 (ns : List Nat) : Value := .agg (U ns).toArray

set_option maxRecDepth 100000 in
theorem bitlen_any (a b c d : Nat) (w : World) (hu : ∀ x ∈ [a, b, c, d], x < 18446744073709551616) :
    Calls Try.prog 22 #[.agg #[.int .u64 a, .int .u64 b, .int .u64 c, .int .u64 d]] w fun e w' => e = .returned (.int .i64 (sizeTo [a, b, c, d] 4 : Nat)) ∧ Below w.heap.size w w' := by
  have SZ := Shut.mk (size_any 24 w.heap.size [a, b, c, d] 4 4 _ (RowAt.arr w 24 [a, b, c, d] (show 4 < 1000000 by decide)) rfl (by decide) hu)
  have B0 := Shut.mk ((Below.refl w.heap.size w).alloc (Nat.le_refl _) (.cells #[.int .u64 a, .int .u64 b, .int .u64 c, .int .u64 d] 24))
  clear hu
  go_enter Try.func22, Try.ntmps22
  go_wp2_with fail
  refine (SZ.out).mono ?_
  rintro e w1 ⟨rfl, rfl⟩
  go_wp2_with fail
  go_ret
  exact ⟨rfl, B0.out⟩

/-- Limbs moved up, or down: what comes to place i. -/
def movedAt (ns : List Nat) (k : Int) (i : Nat) : Nat := if 0 ≤ (i : Int) - k ∧ (i : Int) - k < 4 then ns.getD ((i : Int) - k).toNat 0 else 0

/-- The first i of them, the others 0. -/
def movedTo (ns : List Nat) (k : Int) (i : Nat) : List Nat := (List.range 4).map fun j => if j < i then movedAt ns k j else 0

theorem movedTo_len (ns : List Nat) (k : Int) (i : Nat) : (movedTo ns k i).length = 4 := by simp [movedTo]

theorem movedTo_next (ns : List Nat) (k : Int) (i : Nat) (h : i < 4) : (movedTo ns k i).set i (movedAt ns k i) = movedTo ns k (i + 1) := by
  apply List.ext_getElem?
  intro j
  rw [List.getElem?_set, movedTo_len]
  unfold movedTo
  rw [List.getElem?_map, List.getElem?_map]
  by_cases hj : j < 4
  · rw [List.getElem?_range hj]
    by_cases e : i = j
    · subst e
      rw [if_pos rfl, if_pos h]
      simp
    · rw [if_neg e]
      simp only [Option.map_some, Option.some.injEq]
      by_cases h2 : j < i
      · rw [if_pos h2, if_pos (by omega)]
      · rw [if_neg h2, if_neg (by omega)]
  · have hr : (List.range 4)[j]? = none := List.getElem?_eq_none (by simpa using hj)
    by_cases e : i = j
    · omega
    · rw [if_neg e, hr]; rfl

theorem movedTo_same (ns : List Nat) (k : Int) (i : Nat) (h : movedAt ns k i = 0) : movedTo ns k (i + 1) = movedTo ns k i := by
  unfold movedTo
  apply List.map_congr_left
  intro j _
  by_cases h2 : j < i
  · rw [if_pos h2, if_pos (by omega)]
  · rw [if_neg h2]
    by_cases h3 : j = i
    · rw [if_pos (by omega), h3, h]
    · rw [if_neg (by omega)]

theorem movedTo_zero (ns : List Nat) (k : Int) : movedTo ns k 0 = [0, 0, 0, 0] := by rfl

theorem list4 {l : List Nat} (h : l.length = 4) : ∃ a b c d, l = [a, b, c, d] := by
  match l, h with
  | [a, b, c, d], _ => exact ⟨a, b, c, d, rfl⟩

set_option maxRecDepth 100000 in
theorem moved_any (a b c d : Nat) (k : Int) (hk : -4 ≤ k ∧ k ≤ 4) (w : World) :
    Calls Try.prog 31 #[.agg #[.int .u64 a, .int .u64 b, .int .u64 c, .int .u64 d], .int .i64 k] w fun e w' => e = .returned (.agg (U (movedTo [a, b, c, d] k 4)).toArray) ∧ Below w.heap.size w w' := by
  obtain ⟨ns, hns⟩ : ∃ ns, ns = [a, b, c, d] := ⟨_, rfl⟩
  have NL : Shut (ns.length = 4) := ⟨by rw [hns]; rfl⟩
  have R0 : Shut (RowAt (w.alloc (.cells #[.int .u64 a, .int .u64 b, .int .u64 c, .int .u64 d] 24)) 24 w.heap.size 4 (U ns)) := ⟨by rw [hns]; exact RowAt.arr w 24 [a, b, c, d] (show 4 < 1000000 by decide)⟩
  have R1' := RowAt.arr (w.alloc (.cells #[.int .u64 a, .int .u64 b, .int .u64 c, .int .u64 d] 24)) 24 [0, 0, 0, 0] (by decide)
  rw [World.size_alloc] at R1'
  have R1 : Shut (RowAt ((w.alloc (.cells #[.int .u64 a, .int .u64 b, .int .u64 c, .int .u64 d] 24)).alloc (.cells #[.int .u64 0, .int .u64 0, .int .u64 0, .int .u64 0] 24)) 24 (w.heap.size + 1) 4 (U (movedTo ns k 0))) := ⟨by rw [movedTo_zero]; exact R1'⟩
  have B0 := Shut.mk (((Below.refl w.heap.size w).alloc (Nat.le_refl _) (.cells #[.int .u64 a, .int .u64 b, .int .u64 c, .int .u64 d] 24)).alloc (by simp) (.cells #[.int .u64 0, .int .u64 0, .int .u64 0, .int .u64 0] 24))
  rw [← hns]
  clear hns R1'
  obtain ⟨hk1, hk2⟩ := hk
  go_enter Try.func31, Try.ntmps31
  go_wp2_with fail
  go_loopw [7] (fun i wr => ∃ j : Nat, j ≤ 4 ∧ i = .int .i64 j ∧ RowAt wr 24 (w.heap.size + 1) 4 (U (movedTo ns k j)) ∧ RowAt wr 24 w.heap.size 4 (U ns) ∧ Below w.heap.size w wr) (fun i _ => 4 - (intOf i).toNat)
  case atStart => exact ⟨0, by omega, rfl, R1.out, R0.out.alloc _, B0.out⟩
  case round =>
    obtain ⟨j, hj, rfl, hr1, hr0, hb⟩ := hrel
    have RA := Shut.mk hr1
    have RB := Shut.mk hr0
    have BB := Shut.mk hb
    by_cases hj4 : j < 4
    · have hj5 : (j : Int) < 4 := by omega
      by_cases hin : 0 ≤ (j : Int) - k ∧ (j : Int) - k < 4
      · obtain ⟨h1, h2⟩ := hin
        obtain ⟨m, hm⟩ := Int.eq_ofNat_of_zero_le h1
        have cm := hr0.u64 (k := m) (by rw [NL.out]; omega)
        have hmv : movedAt ns k j = ns.getD m 0 := by
          unfold movedAt
          rw [if_pos ⟨h1, h2⟩, hm, Int.toNat_natCast]
        have cj := hr1.u64 (k := j) (by rw [movedTo_len]; exact hj4)
        have fj := hr1.frozen j
        have RA2 : Shut (RowAt (wr.setCell ⟨w.heap.size + 1, j, none⟩ (.int .u64 (ns.getD m 0 : Nat))) 24 (w.heap.size + 1) 4 (U (movedTo ns k (j + 1)))) := ⟨by
          rw [← hmv]
          have := hr1.set_ j (.int .u64 (movedAt ns k j : Nat))
          rwa [U_set, movedTo_next ns k j hj4] at this⟩
        have RB2 := Shut.mk (RB.out.far (p := ⟨w.heap.size + 1, j, none⟩) (by simp) (.int .u64 (ns.getD m 0 : Nat)))
        have BB2 := Shut.mk (BB.out.setCell (p := ⟨w.heap.size + 1, j, none⟩) (by simp) (.int .u64 (ns.getD m 0 : Nat)))
        have hm4 : (m : Int) < 4 := by omega
        generalize (movedTo ns k j).getD j 0 = y at *
        generalize ns.getD m 0 = x at *
        clear hr1 hr0 hb hmv h1 h2
        go_wp2_with fail
        go_roundw
        case rel => exact ⟨j + 1, by omega, by go_num, RA2.out, RB2.out, BB2.out⟩
        case measure => simp [intOf]; omega
      · have hmv : movedAt ns k j = 0 := by
          unfold movedAt
          rw [if_neg hin]
        have RA2 : Shut (RowAt wr 24 (w.heap.size + 1) 4 (U (movedTo ns k (j + 1)))) := ⟨by rw [movedTo_same ns k j hmv]; exact hr1⟩
        clear hr1 hr0 hb hmv
        by_cases h1 : 0 ≤ (j : Int) - k
        · have h2 : ¬ (j : Int) - k < 4 := fun h => hin ⟨h1, h⟩
          clear hin
          go_wp2_with fail
          go_roundw
          case rel => exact ⟨j + 1, by omega, by go_num, RA2.out, RB.out, BB.out⟩
          case measure => simp [intOf]; omega
        · clear hin
          go_wp2_with fail
          go_roundw
          case rel => exact ⟨j + 1, by omega, by go_num, RA2.out, RB.out, BB.out⟩
          case measure => simp [intOf]; omega
    · obtain rfl : j = 4 := by omega
      obtain ⟨o0, o1, o2, o3, ho⟩ := list4 (movedTo_len ns k 4)
      rw [ho] at hr1
      have HO := Shut.mk ho
      rw [show ((4 : Nat) : Int) = 4 from rfl]
      have f0 := hr1.u64 (k := 0) (show 0 < 4 by decide)
      have f1 := hr1.u64 (k := 1) (show 1 < 4 by decide)
      have f2 := hr1.u64 (k := 2) (show 2 < 4 by decide)
      have f3 := hr1.u64 (k := 3) (show 3 < 4 by decide)
      have z0 := hr1.frozen 0
      have z1 := hr1.frozen 1
      have z2 := hr1.frozen 2
      have z3 := hr1.frozen 3
      simp at f0 f1 f2 f3
      clear hr1 hr0 hb ho hj4
      go_wp2_with fail
      refine bodyPost_ret (v := .agg #[.int .u64 o0, .int .u64 o1, .int .u64 o2, .int .u64 o3]) (by simp [results, Try.results31, go_sem, f0, f1, f2, f3]) rfl ⟨by rw [HO.out]; rfl, ?_⟩
      exact (((BB.out.setCell (p := ⟨w.heap.size + 1, 0, none⟩) (by simp) _).setCell (p := ⟨w.heap.size + 1, 1, none⟩) (by simp) _).setCell (p := ⟨w.heap.size + 1, 2, none⟩) (by simp) _).setCell (p := ⟨w.heap.size + 1, 3, none⟩) (by simp) _

end Go.Proofs.Ytdgklodhgbbdjaa
