/- Walk: Shr. -/
import Derived.Test.YtdgklodhgbbdjaaWB
namespace Go.Proofs.Ytdgklodhgbbdjaa
set_option linter.unusedVariables false
set_option linter.unusedSimpArgs false
open Go Go.RowKit Go.Shelf

theorem sizeTo_le (ns : List Nat) (h : ∀ x ∈ ns, x < 18446744073709551616) : ∀ k, k ≤ ns.length → sizeTo ns k ≤ k * 64
  | 0, _ => Nat.le_refl _
  | k + 1, hk => by
    have ih := sizeTo_le ns h k (by omega)
    have := bitLen_le64 (ns.getD k 0) (h _ (getD_mem ns k (by omega)))
    rw [sizeTo]
    split <;> omega

theorem movedTo_lt (ns : List Nat) (k : Int) (i : Nat) (h : ∀ x ∈ ns, x < 18446744073709551616) : ∀ x ∈ movedTo ns k i, x < 18446744073709551616 := by
  intro x hx
  unfold movedTo at hx
  obtain ⟨j, _, rfl⟩ := List.mem_map.1 hx
  split
  · unfold movedAt
    split
    · rcases Nat.lt_or_ge ((j : Int) - k).toNat ns.length with hl | hl
      · exact h _ (getD_mem ns _ hl)
      · rw [List.getD_eq_getElem?_getD, List.getElem?_eq_none hl]; decide
    · decide
  · decide

theorem or_lt64 (x y : Nat) (hx : x < 18446744073709551616) (hy : y < 18446744073709551616) : x ||| y < 18446744073709551616 := Nat.or_lt_two_pow (n := 64) hx hy

theorem fillTo_lt (f : Nat → Nat) (i : Nat) (h : ∀ j, j < 4 → f j < 18446744073709551616) : ∀ x ∈ fillTo f i, x < 18446744073709551616 := by
  intro x hx
  unfold fillTo at hx
  obtain ⟨j, hj, rfl⟩ := List.mem_map.1 hx
  split
  · exact h j (List.mem_range.1 hj)
  · decide

theorem shlOf_len (us : List Nat) (k : Nat) (h : us.length = 4) : (shlOf us k).length = 4 := by
  unfold shlOf
  split
  · exact h
  · exact fillTo_len _ _

/-- Whether something falls out above. -/
def shlOv (ns : List Nat) (n : Nat) : Bool := decide (256 < sizeTo ns 4 + n) && !decide (ns = [0, 0, 0, 0])

theorem shl_use (a b c d n : Nat) (hn : n < 320) (w : World) (hu : ∀ x ∈ [a, b, c, d], x < 18446744073709551616) :
    Calls Try.prog 8 #[.agg #[.int .u64 a, .int .u64 b, .int .u64 c, .int .u64 d], .int .u64 n] w fun e w' => e = .returned (.tuple #[.agg (U (shlOf (movedTo [a, b, c, d] ((n / 64 : Nat) : Int) 4) (n % 64))).toArray, .bool (shlOv [a, b, c, d] n)]) ∧ Below w.heap.size w w' :=
  shl_any a b c d n (sizeTo [a, b, c, d] 4) (n / 64) (n % 64) _ _ rfl (movedTo_lt _ _ _ hu) rfl rfl (sizeTo_le _ hu 4 (show 4 ≤ 4 by decide)) (by omega) (by omega) hn rfl rfl w hu

/-- Limbs shifted down by less than one: place j. -/
def shrAt (ds : List Nat) (k j : Nat) : Nat := ds.getD j 0 / 2 ^ k ||| (if 0 < k ∧ j + 1 < 4 then ds.getD (j + 1) 0 * 2 ^ (64 - k) % 18446744073709551616 else 0)

/-- What Shr answers. -/
def shrOf (ns : List Nat) (n : Nat) : List Nat := fillTo (shrAt (movedTo ns (-((n / 64 : Nat) : Int)) 4) (n % 64)) 4
def shrLost (ns : List Nat) (n : Nat) : Bool := !decide (shlOf (movedTo (shrOf ns n) ((n / 64 : Nat) : Int) 4) (n % 64) = ns)

set_option maxRecDepth 100000 in
set_option maxHeartbeats 2000000 in
theorem shr_any (a b c d n q k : Nat) (ds : List Nat) (lost : Bool) (hds : ds = movedTo [a, b, c, d] (-(q : Int)) 4) (hnq : n / 64 = q) (hnk : n % 64 = k) (hlost : lost = shrLost [a, b, c, d] n) (hn : n < 320) (w : World) (hu : ∀ x ∈ [a, b, c, d], x < 18446744073709551616) :
    Calls Try.prog 9 #[.agg #[.int .u64 a, .int .u64 b, .int .u64 c, .int .u64 d], .int .u64 n] w fun e w' => e = .returned (.tuple #[.agg (U (fillTo (shrAt ds k) 4)).toArray, .bool lost]) ∧ Below w.heap.size w w' := by
  have hq : q ≤ 4 := by omega
  have hk : k < 64 := by omega
  have MV := Shut.mk (fun (W : World) => moved_any a b c d (-(q : Int)) (by omega) W)
  have R0 : Shut (RowAt (w.alloc (.cells #[.int .u64 a, .int .u64 b, .int .u64 c, .int .u64 d] 24)) 24 w.heap.size 4 (U [a, b, c, d])) := ⟨RowAt.arr w 24 [a, b, c, d] (show 4 < 1000000 by decide)⟩
  have R1' := RowAt.arr (w.alloc (.cells #[.int .u64 a, .int .u64 b, .int .u64 c, .int .u64 d] 24)) 24 [0, 0, 0, 0] (by decide)
  rw [World.size_alloc] at R1'
  have R1 : Shut (RowAt ((w.alloc (.cells #[.int .u64 a, .int .u64 b, .int .u64 c, .int .u64 d] 24)).alloc (.cells #[.int .u64 0, .int .u64 0, .int .u64 0, .int .u64 0] 24)) 24 (w.heap.size + 1) 4 (U [0, 0, 0, 0])) := ⟨R1'⟩
  have B0 := Shut.mk (((Below.refl w.heap.size w).alloc (Nat.le_refl _) (.cells #[.int .u64 a, .int .u64 b, .int .u64 c, .int .u64 d] 24)).alloc (by simp) (.cells #[.int .u64 0, .int .u64 0, .int .u64 0, .int .u64 0] 24))
  have hmin2 : min (q : Int) 4 = (q : Int) := by omega
  have hq1 : (n : Int) / 64 = (q : Int) := by omega
  have hk1 : (n : Int) % 64 = (k : Int) := by omega
  have hUL : ds.length = 4 := by rw [hds]; exact movedTo_len _ _ _
  have HUL : Shut (∀ x ∈ ds, x < 18446744073709551616) := ⟨by rw [hds]; exact movedTo_lt _ _ _ hu⟩
  have HLO : Shut (lost = !decide (shlOf (movedTo (fillTo (shrAt ds k) 4) ((n / 64 : Nat) : Int) 4) (n % 64) = [a, b, c, d])) := ⟨by
    rw [hlost]; unfold shrLost shrOf; rw [hnq, hnk, ← hds]⟩
  have SHL : Shut (∀ (o0 o1 o2 o3 : Nat) (W : World), [o0, o1, o2, o3] = fillTo (shrAt ds k) 4 → ∃ (b0 b1 b2 b3 : Nat) (ov : Bool), lost = !decide ([b0, b1, b2, b3] = [a, b, c, d]) ∧
      Calls Try.prog 8 #[.agg #[.int .u64 o0, .int .u64 o1, .int .u64 o2, .int .u64 o3], .int .u64 n] W fun e w' => e = .returned (.tuple #[.agg #[.int .u64 b0, .int .u64 b1, .int .u64 b2, .int .u64 b3], .bool ov]) ∧ Below W.heap.size W w') := ⟨fun o0 o1 o2 o3 W ho => by
    obtain ⟨b0, b1, b2, b3, hb⟩ := list4 (shlOf_len (movedTo (fillTo (shrAt ds k) 4) ((n / 64 : Nat) : Int) 4) (n % 64) (movedTo_len _ _ _))
    refine ⟨b0, b1, b2, b3, shlOv (fillTo (shrAt ds k) 4) n, by rw [← hb]; exact HLO.out, ?_⟩
    have := shl_use o0 o1 o2 o3 n hn W (by
      rw [ho]
      refine fillTo_lt _ _ (fun j hj => ?_)
      unfold shrAt
      refine or_lt64 _ _ (Nat.lt_of_le_of_lt (Nat.div_le_self _ _) (HUL.out _ (getD_mem _ _ (by rw [hUL]; exact hj)))) ?_
      split
      · exact Nat.mod_lt _ (by decide)
      · decide)
    rw [ho, hb] at this
    exact this⟩
  rw [← hds] at MV
  obtain ⟨u0, u1, u2, u3, hu4⟩ := list4 hUL
  rw [hu4] at MV HUL SHL ⊢
  clear hu hnq hnk R1' hds hUL hu4 hlost HLO
  go_enter Try.func9, Try.ntmps9
  obtain ⟨⟨c0, c1, c2, c3⟩, _⟩ := (R0.out.alloc (.cells #[.int .u64 0, .int .u64 0, .int .u64 0, .int .u64 0] 24)).four
  have RB := Shut.mk (R0.out.alloc (.cells #[.int .u64 0, .int .u64 0, .int .u64 0, .int .u64 0] 24))
  have RA := R1
  have B1 := B0
  go_wp2_with fail
  refine (MV.out _).mono ?_
  rintro e w2 ⟨rfl, hb⟩
  have RB2 := Shut.mk (RB.out.below hb)
  have RA2 := Shut.mk (RA.out.below hb)
  have B2 := Shut.mk (B1.out.trans (hb.mono (by simp only [World.size_alloc]; omega)))
  clear hb
  have RB3 := Shut.mk (RB2.out.alloc (.cells #[.int .u64 u0, .int .u64 u1, .int .u64 u2, .int .u64 u3] 24))
  have RA3 := Shut.mk (RA2.out.alloc (.cells #[.int .u64 u0, .int .u64 u1, .int .u64 u2, .int .u64 u3] 24))
  have RU3 : Shut (RowAt (w2.alloc (.cells #[.int .u64 u0, .int .u64 u1, .int .u64 u2, .int .u64 u3] 24)) 24 w2.heap.size 4 (U [u0, u1, u2, u3])) := ⟨RowAt.arr w2 24 [u0, u1, u2, u3] (show 4 < 1000000 by decide)⟩
  have B3 := Shut.mk (B2.out.alloc B2.out.size (.cells #[.int .u64 u0, .int .u64 u1, .int .u64 u2, .int .u64 u3] 24))
  have NEW : Shut (w.heap.size + 1 < w2.heap.size) := ⟨RA2.out.lt⟩
  clear c0 c1 c2 c3
  go_wp2_with fail
  simp only [hk1]
  clear hk1 hq1
  go_loopw [20] (fun i wr => ∃ j : Nat, j ≤ 4 ∧ i = .int .i64 j ∧ RowAt wr 24 (w.heap.size + 1) 4 (U (fillTo (shrAt [u0, u1, u2, u3] k) j)) ∧ RowAt wr 24 w2.heap.size 4 (U [u0, u1, u2, u3]) ∧ RowAt wr 24 w.heap.size 4 (U [a, b, c, d]) ∧ Below w.heap.size w wr) (fun i _ => 4 - (intOf i).toNat)
  case atStart => exact ⟨0, by omega, rfl, RA3.out, RU3.out, RB3.out, B3.out⟩
  case round =>
    obtain ⟨j, hj, rfl, hr1, hr0, hra, hb⟩ := hrel
    by_cases hj4 : j < 4
    · have hj5 : (j : Int) < 4 := by omega
      have cu := hr0.u64 (k := j) hj4
      have ca := hr1.u64 (k := j) (by rw [fillTo_len]; exact hj4)
      have fj := hr1.frozen j
      have hxl : [u0, u1, u2, u3].getD j 0 < 18446744073709551616 := HUL.out _ (getD_mem _ _ hj4)
      obtain ⟨X, hX⟩ : ∃ X : Nat, X = [u0, u1, u2, u3].getD j 0 / 2 ^ k := ⟨_, rfl⟩
      have hXl : X < 18446744073709551616 := by rw [hX]; exact Nat.lt_of_le_of_lt (Nat.div_le_self _ _) hxl
      have hwX : (([u0, u1, u2, u3].getD j 0 : Nat) : Int) / 2 ^ k = (X : Int) := div_pow _ _ _ hX
      by_cases hj0 : 0 < k ∧ j + 1 < 4
      · obtain ⟨m, hm⟩ : ∃ m, m = j + 1 := ⟨j + 1, rfl⟩
        have cm := hr0.u64 (k := m) (show m < 4 by omega)
        have hjm : (j : Int) + 1 = (m : Int) := by omega
        have hm4 : (m : Int) < 4 := by omega
        have hkk : (k : Int) > 0 := by omega
        obtain ⟨r, hr⟩ : ∃ r, r = 64 - k := ⟨_, rfl⟩
        have h64 : (64 : Int) - (k : Int) = (r : Int) := by omega
        obtain ⟨Y, hY⟩ : ∃ Y : Nat, Y = [u0, u1, u2, u3].getD m 0 * 2 ^ r % 18446744073709551616 := ⟨_, rfl⟩
        have hYl : Y < 18446744073709551616 := by rw [hY]; exact Nat.mod_lt _ (by decide)
        have hwY : IntKind.u64.wrap (([u0, u1, u2, u3].getD m 0 : Int) * 2 ^ r) = (Y : Int) := wrap_shl _ _ _ hY
        have hO := or_u64 X Y hXl hYl
        have hA : shrAt [u0, u1, u2, u3] k j = X ||| Y := by unfold shrAt; rw [if_pos hj0, hX, hY, hr, hm]
        have RA4 : Shut (∀ W : World, W = ((wr.setCell ⟨w.heap.size + 1, j, none⟩ (.int .u64 (X : Nat))).setCell ⟨w.heap.size + 1, j, none⟩ (.int .u64 (X ||| Y : Nat))) → RowAt W 24 (w.heap.size + 1) 4 (U (fillTo (shrAt [u0, u1, u2, u3] k) (j + 1)))) := ⟨fun W hW => by
          rw [hW, ← fillTo_next _ _ hj4, hA, ← set_set _ j X]
          have := (hr1.set_ j (.int .u64 (X : Nat))).set_ j (.int .u64 (X ||| Y : Nat))
          rwa [U_set, U_set] at this⟩
        have RB4 := Shut.mk ((hr0.far (p := ⟨w.heap.size + 1, j, none⟩) (by have := NEW.out; simp; omega) (.int .u64 (X : Nat))).far (p := ⟨w.heap.size + 1, j, none⟩) (by have := NEW.out; simp; omega) (.int .u64 (X ||| Y : Nat)))
        have RC4 := Shut.mk ((hra.far (p := ⟨w.heap.size + 1, j, none⟩) (by simp) (.int .u64 (X : Nat))).far (p := ⟨w.heap.size + 1, j, none⟩) (by simp) (.int .u64 (X ||| Y : Nat)))
        have BB4 := Shut.mk ((hb.setCell (p := ⟨w.heap.size + 1, j, none⟩) (by simp) (.int .u64 (X : Nat))).setCell (p := ⟨w.heap.size + 1, j, none⟩) (by simp) (.int .u64 (X ||| Y : Nat)))
        have HM := Shut.mk hm
        generalize [u0, u1, u2, u3].getD j 0 = x at *
        generalize [u0, u1, u2, u3].getD m 0 = y at *
        generalize (fillTo (shrAt [u0, u1, u2, u3] k) j).getD j 0 = v at *
        generalize X ||| Y = O at *
        clear hr1 hr0 hra hb hX hr hm hY hA hxl hXl hYl hj0
        go_wp2_with fail
        go_region
        clear hjm
        go_wp2_with fail
        go_roundw
        case rel => exact ⟨j + 1, by omega, by go_num, (RA4.out _ rfl).drew, RB4.out.drew, RC4.out.drew, below_drewN BB4.out 1⟩
        case measure => simp [intOf]; omega
      · have hA : shrAt [u0, u1, u2, u3] k j = X := by unfold shrAt; rw [if_neg hj0, Nat.or_zero, hX]
        have RA4 : Shut (RowAt (wr.setCell ⟨w.heap.size + 1, j, none⟩ (.int .u64 (X : Nat))) 24 (w.heap.size + 1) 4 (U (fillTo (shrAt [u0, u1, u2, u3] k) (j + 1)))) := ⟨by
          rw [← fillTo_next _ _ hj4, hA]
          have := hr1.set_ j (.int .u64 (X : Nat))
          rwa [U_set] at this⟩
        have RB4 := Shut.mk (hr0.far (p := ⟨w.heap.size + 1, j, none⟩) (by have := NEW.out; simp; omega) (.int .u64 (X : Nat)))
        have RC4 := Shut.mk (hra.far (p := ⟨w.heap.size + 1, j, none⟩) (by simp) (.int .u64 (X : Nat)))
        have BB4 := Shut.mk (hb.setCell (p := ⟨w.heap.size + 1, j, none⟩) (by simp) (.int .u64 (X : Nat)))
        generalize [u0, u1, u2, u3].getD j 0 = x at *
        generalize (fillTo (shrAt [u0, u1, u2, u3] k) j).getD j 0 = v at *
        clear hr1 hr0 hra hb hX hA hxl hXl
        by_cases hk0 : 0 < k
        · have hkk : (k : Int) > 0 := by omega
          have hj6 : ¬ (j : Int) + 1 < 4 := by omega
          clear hj0
          go_wp2_with fail
          go_roundw
          case rel => exact ⟨j + 1, by omega, by go_num, RA4.out, RB4.out, RC4.out, BB4.out⟩
          case measure => simp [intOf]; omega
        · have hkk : ¬ (k : Int) > 0 := by omega
          clear hj0
          go_wp2_with fail
          go_roundw
          case rel => exact ⟨j + 1, by omega, by go_num, RA4.out, RB4.out, RC4.out, BB4.out⟩
          case measure => simp [intOf]; omega
    · obtain rfl : j = 4 := by omega
      obtain ⟨o0, o1, o2, o3, ho⟩ := list4 (fillTo_len (shrAt [u0, u1, u2, u3] k) 4)
      rw [ho] at hr1
      have HO := Shut.mk ho
      have BB := Shut.mk hb
      rw [show ((4 : Nat) : Int) = 4 from rfl]
      obtain ⟨⟨a0, a1, a2, a3⟩, z0, z1, z2, z3⟩ := hr1.four
      have RO := Shut.mk hr1
      have RC := Shut.mk hra
      obtain ⟨b0, b1, b2, b3, ov, hlo, hcall⟩ := SHL.out o0 o1 o2 o3 wr ho.symm
      have HLO := Shut.mk hlo
      have HC := Shut.mk hcall
      clear hr1 hr0 hra hb ho hj4 hlo hcall
      go_wp2_with fail
      refine (HC.out).mono ?_
      rintro e w3 ⟨rfl, hb⟩
      have RO3 := Shut.mk ((RO.out.below hb).alloc (.cells #[.int .u64 b0, .int .u64 b1, .int .u64 b2, .int .u64 b3] 24))
      have RC3 := Shut.mk ((RC.out.below hb).alloc (.cells #[.int .u64 b0, .int .u64 b1, .int .u64 b2, .int .u64 b3] 24))
      have RK3 : Shut (RowAt (w3.alloc (.cells #[.int .u64 b0, .int .u64 b1, .int .u64 b2, .int .u64 b3] 24)) 24 w3.heap.size 4 (U [b0, b1, b2, b3])) := ⟨RowAt.arr w3 24 [b0, b1, b2, b3] (show 4 < 1000000 by decide)⟩
      have BB3 := Shut.mk ((BB.out.trans (hb.mono BB.out.size)).alloc (Nat.le_trans BB.out.size hb.size) (.cells #[.int .u64 b0, .int .u64 b1, .int .u64 b2, .int .u64 b3] 24))
      obtain ⟨z, hz⟩ : ∃ z : Bool, z = decide ([b0, b1, b2, b3] = [a, b, c, d]) := ⟨_, rfl⟩
      have EQ : ∀ W : World, (Op.equalIn 10000 24 (.agg #[.int .u64 b0, .int .u64 b1, .int .u64 b2, .int .u64 b3]) (.agg #[.int .u64 a, .int .u64 b, .int .u64 c, .int .u64 d])).run Try.prog W = .ok z W := fun W => by
        rw [hz]; exact run_eq_arr 24 4 Try.underlying24 [b0, b1, b2, b3] [a, b, c, d] rfl rfl 9998 W
      have HLZ : Shut (lost = !z) := ⟨by rw [HLO.out, hz]⟩
      have NE1 : ¬ (w.heap.size + 1 = w3.heap.size) := by have := NEW.out; have := BB.out.size; have := hb.size; have := RO.out.lt; omega
      have NE2 : ¬ (w3.heap.size = w.heap.size + 1) := fun h => NE1 h.symm
      clear hb hz a0 a1 a2 a3 z0 z1 z2 z3
      obtain ⟨⟨a0, a1, a2, a3⟩, z0, z1, z2, z3⟩ := RO3.out.four
      obtain ⟨⟨x0, x1, x2, x3⟩, _⟩ := RC3.out.four
      obtain ⟨⟨y0, y1, y2, y3⟩, _⟩ := RK3.out.four
      go_wp2_with fail
      go_region
      go_wp2_with fail
      refine bodyPost_ret (v := .tuple #[.agg #[.int .u64 o0, .int .u64 o1, .int .u64 o2, .int .u64 o3], .bool (!z)]) (by simp [results, Try.results9, go_sem, a0, a1, a2, a3]) rfl ⟨by rw [HO.out, HLZ.out]; rfl, ?_⟩
      exact below_drewN ((((BB3.out.setCell (p := ⟨w.heap.size + 1, 0, none⟩) (by simp) _).setCell (p := ⟨w.heap.size + 1, 1, none⟩) (by simp) _).setCell (p := ⟨w.heap.size + 1, 2, none⟩) (by simp) _).setCell (p := ⟨w.heap.size + 1, 3, none⟩) (by simp) _) 1

end Go.Proofs.Ytdgklodhgbbdjaa
