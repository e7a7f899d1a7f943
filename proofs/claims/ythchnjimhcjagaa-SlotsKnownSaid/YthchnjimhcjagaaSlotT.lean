/- The law SlotsKnown, walked. -/
import Derived.Test.YthchnjimhcjagaaSlotS
namespace Go.Proofs.Ythchnjimhcjagaa
set_option linter.unusedVariables false
set_option linter.unusedSimpArgs false
open Go Go.RowKit

theorem find_nil (w : World) : Calls Try.prog 14 #[.pointer none, .int .u64 0] w fun e w' => e = .returned (.tuple #[.int .u64 0, .bool false]) ∧ w = w' := by
  go_enter Try.func14, Try.ntmps14
  go_wp2_with fail
  go_ret2
  exact ⟨rfl, rfl⟩

theorem len_nil (w : World) : Calls Try.prog 11 #[.pointer none] w fun e w' => e = .returned (.int .i64 0) ∧ w = w' := by
  go_enter Try.func11, Try.ntmps11
  go_wp2_with fail
  go_ret
  exact ⟨rfl, rfl⟩

theorem total_nil (w : World) : Calls Try.prog 12 #[.pointer none] w fun e w' => e = .returned (.int .u64 0) ∧ w = w' := by
  go_enter Try.func12, Try.ntmps12
  go_wp2_with fail
  go_ret
  exact ⟨rfl, rfl⟩

theorem sum_nil (w : World) : Calls Try.prog 16 #[.pointer none, .int .u64 0] w fun e w' => e = .returned (.tuple #[.int .u64 0, .bool false]) ∧ w = w' := by
  have L := Shut.mk len_nil
  go_enter Try.func16, Try.ntmps16
  go_wp2_with fail
  refine (L.out _).mono ?_
  rintro e w1 ⟨rfl, rfl⟩
  go_wp2_with fail
  go_ret2
  exact ⟨rfl, rfl⟩

theorem made_bool (n : Nat) : (madeCells (Value.bool false).cells (n * 1)).toList = (List.replicate n false).map Value.bool := by
  apply List.ext_getElem?
  intro i
  simp only [madeCells, Value.cells, Nat.mul_one]
  by_cases h : i < n
  · simp [h, Nat.mod_one]
  · simp [h]

section
variable {ops : Array Oper} {o : Oper} {a : Act} {K : Act → World → Prop} {Q : Exit → Act → World → Prop} {E : Prop}

theorem step_made (T e : TypeId) (z : Value) (bytes : Nat) (hT : Try.prog.underlying T = some (.slice e)) (hI : ∃ i, Try.prog.info? e = some i ∧ i.zero = some z ∧ i.size = 1 ∧ i.bytes = bytes) (hby : bytes ≤ 24)
    (w : World) (hg : o.guard = none) (l c : Operand) (hop : o.op = Op.makeSlice T l c) (n : Nat) (C : Int) (hC : C = (n : Int)) (hl : a.eval l = .int .i64 C) (hc : a.eval c = .int .i64 C) (hn : n < 1000000)
    (hK : ∀ ob : Obj, ob = .cells (madeCells z.cells (n * 1)) e → K (a.put o.dst (.slice (some ⟨w.heap.size, 0, none⟩) n n)) (w.alloc ob)) : if Region.wanted o (yielded ops a.tmps) = true then Oper.wp Try.prog o a w K Q else E := by
  obtain ⟨i, hi, hz, hs, hb⟩ := hI
  have hw : Region.wanted o (yielded ops a.tmps) = true := by simp [Region.wanted, hg]
  rw [if_pos hw]
  have b2 : (i.bytes : Int) * C ≤ 281474976710656 := by
    rw [hb, hC]
    have h : bytes * n ≤ 281474976710656 := Nat.le_trans (Nat.mul_le_mul hby (show n ≤ 1000000 by omega)) (by decide)
    rw [← Int.natCast_mul]
    omega
  have hrun := run_make (P := Try.prog) w T e i z hT hi hz .i64 .i64 C C (by omega) (by omega) b2 (by omega)
  subst hC
  rw [Int.toNat_natCast, hs] at hrun
  unfold Oper.wp
  simp [execOp, hop, hl, hc, hrun, Result.andThen]
  have := hK _ rfl
  rwa [Nat.mul_one] at this

end

theorem Row.made (w : World) (e : TypeId) (z : Value) (n : Nat) (xs : List Value) (ob : Obj) (h : ob = .cells (madeCells z.cells (n * 1)) e) (hx : (madeCells z.cells (n * 1)).toList = xs) (hn : n < 1000000) :
    Row (w.alloc ob) e (.slice (some ⟨w.heap.size, 0, none⟩) n n) xs := by
  subst h hx
  have hlen : (madeCells z.cells (n * 1)).toList.length = n := by simp [madeCells]
  have := (RowAt.new w e (madeCells z.cells (n * 1)).toList (by rw [hlen]; exact Nat.le_of_succ_le (maxLen_big _ hn))).row
  rw [hlen] at this
  simpa using this

/-- So many that they are too long. -/
theorem long_new (n : Nat) (h : 65536 < n) : NewE (List.replicate n 0) (List.replicate n false) = 3 := by
  unfold NewE
  rw [if_neg (by simp), if_pos (by simpa using h)]

theorem long_any (n : Nat) (h : 65536 < n) (hn : n < 1000000) (A A' : Option Addr) (W : World) (h1 : Row W 36 (.slice A n n) (U (List.replicate n 0))) (h2 : Row W 4 (.slice A' n n) ((List.replicate n false).map Value.bool)) :
    Calls Try.prog 8 #[.slice A n n, .slice A' n n] W fun e w' => e = .returned (.tuple #[.pointer none, .int .i64 3]) ∧ Below W.heap.size W w' :=
  (pnew_any _ _ _ _ W h1 h2 (fun x hx => by rw [List.eq_of_mem_replicate hx]; decide)).mono fun e w' ⟨a, b⟩ => by
    refine ⟨?_, b⟩
    rcases a with ⟨_, a⟩ | ⟨a, _⟩
    · rw [a, long_new n h]; rfl
    · have := newE_fine.2 a
      rw [long_new n h] at this
      exact absurd this (by decide)

set_option maxRecDepth 100000 in
set_option maxHeartbeats 2000000 in
theorem SlotsKnown_walk (w : World) : Calls Try.prog 6 #[] w fun e w' => e = .returned (.bool true) ∧ Below w.heap.size w w' := by
  have NWl : Shut (∀ (xs : List Nat) (bs : List Bool) (k k' : Nat) (W : World), xs.length = k → bs.length = k' → k < 1000000 → k' < 1000000 → (∀ x ∈ xs, x < 18446744073709551616) →
      Calls Try.prog 8 #[.slice (some ⟨W.heap.size, 0, none⟩) k k, .slice (some ⟨W.heap.size + 1, 0, none⟩) k' k'] ((W.alloc (.cells (U xs).toArray 36)).alloc (.cells (bs.map Value.bool).toArray 4)) fun e w' => PNew xs bs w' e ∧ Below W.heap.size W w') := ⟨fun xs bs k k' W h1 h2 h3 h4 hu => by
    have r1 := Row.newU W xs (by omega)
    have r2 := Row.newB (W.alloc (.cells (U xs).toArray 36)) bs (by omega)
    rw [World.size_alloc] at r2
    have e1 : (U xs).length = k := by simpa using h1
    have e2 : (bs.map Value.bool).length = k' := by simpa using h2
    rw [e1] at r1
    rw [e2] at r2
    refine (pnew_any _ _ xs bs _ (r1.alloc _) r2 hu).mono fun e w' ⟨a, b⟩ => ⟨a, ?_⟩
    exact ((((Below.refl W.heap.size W).alloc (Nat.le_refl _) _).alloc (by simp) _)).trans (b.mono (by simp; omega))⟩
  have PA : Shut (∀ W : World, Calls Try.prog 8 #[.slice (some ⟨W.heap.size, 0, none⟩) 3 3, .slice (some ⟨W.heap.size + 1, 0, none⟩) 3 3] ((W.alloc (.cells #[.int .u64 18446744073709551614, .int .u64 1, .int .u64 9] 36)).alloc (.cells #[.bool true, .bool true, .bool false] 4)) fun e w' => PNew [18446744073709551614, 1, 9] [true, true, false] w' e ∧ Below W.heap.size W w') :=
    ⟨fun W => NWl.out [18446744073709551614, 1, 9] [true, true, false] 3 3 W rfl rfl (by decide) (by decide) (by decide)⟩
  have PB : Shut (∀ W : World, Calls Try.prog 8 #[.slice (some ⟨W.heap.size, 0, none⟩) 2 2, .slice (some ⟨W.heap.size + 1, 0, none⟩) 2 2] ((W.alloc (.cells #[.int .u64 18446744073709551615, .int .u64 1] 36)).alloc (.cells #[.bool true, .bool true] 4)) fun e w' => PNew [18446744073709551615, 1] [true, true] w' e ∧ Below W.heap.size W w') :=
    ⟨fun W => NWl.out [18446744073709551615, 1] [true, true] 2 2 W rfl rfl (by decide) (by decide) (by decide)⟩
  have PH : Shut (∀ W : World, Calls Try.prog 8 #[.slice (some ⟨W.heap.size, 0, none⟩) 2 2, .slice (some ⟨W.heap.size + 1, 0, none⟩) 2 2] ((W.alloc (.cells #[.int .u64 1, .int .u64 0] 36)).alloc (.cells #[.bool true, .bool false] 4)) fun e w' => PNew [1, 0] [true, false] w' e ∧ Below W.heap.size W w') :=
    ⟨fun W => NWl.out [1, 0] [true, false] 2 2 W rfl rfl (by decide) (by decide) (by decide)⟩
  have FA : Shut (Fine [18446744073709551614, 1, 9] [true, true, false]) := ⟨newE_fine.1 (by decide)⟩
  have EB : Shut (NewE [18446744073709551615, 1] [true, true] = 21) := ⟨by decide⟩
  have EH : Shut (NewE [1, 0] [true, false] = 2) := ⟨by decide⟩
  have PG : Shut (∀ W : World, Calls Try.prog 8 #[.slice (some ⟨W.heap.size, 0, none⟩) 1 1, .slice none 0 0] (W.alloc (.cells #[.int .u64 1] 36)) fun e w' => e = .returned (.tuple #[.pointer none, .int .i64 2]) ∧ Below W.heap.size W w') := ⟨fun W => by
    refine (pnew_any (.slice (some ⟨W.heap.size, 0, none⟩) 1 1) (.slice none 0 0) [1] [] _ (Row.newU W [1] (by decide)) (Row.nil _ _) (by decide)).mono fun e w' ⟨a, b⟩ => ⟨?_, ((Below.refl W.heap.size W).alloc (Nat.le_refl _) _).trans (b.mono (by simp))⟩
    rcases a with ⟨_, a⟩ | ⟨a, _⟩
    · exact a
    · exact absurd (newE_fine.2 a) (by decide)⟩
  have PN : Shut (∀ W : World, Calls Try.prog 8 #[.slice none 0 0, .slice none 0 0] W fun e w' => PNew [] [] w' e ∧ Below W.heap.size W w') := ⟨fun W => pnew_any _ _ [] [] W (Row.nil _ _) (Row.nil _ _) (by decide)⟩
  have FE : Shut (Fine [] []) := ⟨newE_fine.1 (by decide)⟩
  have PNO : Shut (∀ ws bs W e, PNew ws bs W e → NewE ws bs ≠ 0 → e = .returned (.tuple #[.pointer none, .int .i64 (NewE ws bs : Nat)])) := ⟨fun ws bs W e h h0 => by
    rcases h with ⟨_, h⟩ | ⟨h, _⟩
    · exact h
    · exact absurd (newE_fine.2 h) h0⟩
  have WK := Shut.mk works_any
  have PI := Shut.mk (long_any 65537 (by decide) (by decide))
  have RA : Shut (∀ (W : World) (ob : Obj), ob = .cells (madeCells (Value.int .u64 0).cells (65537 * 1)) 36 → Row (W.alloc ob) 36 (.slice (some ⟨W.heap.size, 0, none⟩) 65537 65537) (U (List.replicate 65537 0))) := ⟨fun W ob h => Row.made W _ _ 65537 _ ob h (made_u64 65537) (by decide)⟩
  have SZ : Shut (∀ (W : World) (ob : Obj), (W.alloc ob).heap.size = W.heap.size + 1) := ⟨fun W ob => World.size_alloc W ob⟩
  have RB : Shut (∀ (W : World) (ob : Obj), ob = .cells (madeCells (Value.bool false).cells (65537 * 1)) 4 → Row (W.alloc ob) 4 (.slice (some ⟨W.heap.size, 0, none⟩) 65537 65537) ((List.replicate 65537 false).map Value.bool)) := ⟨fun W ob h => Row.made W _ _ 65537 _ ob h (made_bool 65537) (by decide)⟩
  have NIL := Shut.mk (And.intro find_nil (And.intro sum_nil (And.intro total_nil len_nil)))
  have XA : Shut (∀ g W, PLay W g [18446744073709551614, 1, 9] [true, true, false] →
      (Calls Try.prog 14 #[.pointer (some ⟨g, 0, none⟩), .int .u64 18446744073709551614] W fun e w' => e = .returned (.tuple #[.int .u64 1, .bool true]) ∧ Below W.heap.size W w') ∧
      (Calls Try.prog 14 #[.pointer (some ⟨g, 0, none⟩), .int .u64 18446744073709551615] W fun e w' => e = .returned (.tuple #[.int .u64 0, .bool false]) ∧ Below W.heap.size W w') ∧
      (Calls Try.prog 16 #[.pointer (some ⟨g, 0, none⟩), .int .u64 2] W fun e w' => e = .returned (.tuple #[.int .u64 18446744073709551615, .bool true]) ∧ W = w') ∧
      (Calls Try.prog 12 #[.pointer (some ⟨g, 0, none⟩)] W fun e w' => e = .returned (.int .u64 18446744073709551615) ∧ Below W.heap.size W w')) := ⟨fun g W h => by
    have e1 : FallsTo [18446744073709551614, 1, 9] [true, true, false] 18446744073709551614 1 true := by unfold FallsTo; decide
    have e2 : FallsTo [18446744073709551614, 1, 9] [true, true, false] 18446744073709551615 0 false := by unfold FallsTo; decide
    have e3 : RSumIs [18446744073709551614, 1, 9] [true, true, false] 2 = .tuple #[.int .u64 18446744073709551615, .bool true] := by simp [RSumIs, Pre]
    have e4 : Pre [18446744073709551614, 1, 9] [true, true, false] (0 + 1 + 1 + 1) = 18446744073709551615 := by decide
    exact ⟨(pfind_any g _ _ 18446744073709551614 W h FA.out).mono fun e w' ⟨a, b⟩ => ⟨a.known e1, b⟩, (pfind_any g _ _ 18446744073709551615 W h FA.out).mono fun e w' ⟨a, b⟩ => ⟨a.known e2, b⟩,
      (psum_any g _ _ 2 W h FA.out (by decide)).mono fun e w' ⟨a, b⟩ => ⟨by rw [a, e3], b⟩, (ptotal_any g _ _ W h FA.out).mono fun e w' ⟨a, b⟩ => ⟨by rw [a]; simp only [List.length_cons, List.length_nil, e4]; rfl, b⟩⟩⟩
  have XE : Shut (∀ g W, PLay W g [] [] →
      (Calls Try.prog 14 #[.pointer (some ⟨g, 0, none⟩), .int .u64 0] W fun e w' => e = .returned (.tuple #[.int .u64 0, .bool false]) ∧ Below W.heap.size W w') ∧
      (Calls Try.prog 16 #[.pointer (some ⟨g, 0, none⟩), .int .u64 0] W fun e w' => e = .returned (.tuple #[.int .u64 0, .bool false]) ∧ W = w') ∧
      (Calls Try.prog 12 #[.pointer (some ⟨g, 0, none⟩)] W fun e w' => e = .returned (.int .u64 0) ∧ Below W.heap.size W w') ∧
      (Calls Try.prog 11 #[.pointer (some ⟨g, 0, none⟩)] W fun e w' => e = .returned (.int .i64 0) ∧ W = w')) := ⟨fun g W h => by
    have e1 : FallsTo [] [] 0 0 false := by unfold FallsTo; decide
    have e3 : RSumIs [] [] 0 = .tuple #[.int .u64 0, .bool false] := by simp [RSumIs]
    exact ⟨(pfind_any g _ _ 0 W h FE.out).mono fun e w' ⟨a, b⟩ => ⟨a.known e1, b⟩,
      (psum_any g _ _ 0 W h FE.out (by decide)).mono fun e w' ⟨a, b⟩ => ⟨by rw [a, e3], b⟩, (ptotal_any g _ _ W h FE.out).mono fun e w' ⟨a, b⟩ => ⟨a, b⟩, (plen_any g _ _ W h FE.out).mono fun e w' ⟨a, b⟩ => ⟨a, b⟩⟩⟩
  clear NWl
  go_enter Try.func6, Try.ntmps6
  go_wp2_with fail
  refine (PA.out w).mono ?_
  rintro e w1 ⟨hP, hb⟩
  obtain ⟨g, rfl, hL⟩ := hP.yes (newE_fine.2 FA.out)
  have L1 : Shut (PLay w1 g [18446744073709551614, 1, 9] [true, true, false]) := ⟨hL⟩
  have B1 := Shut.mk hb
  clear hP hL hb
  go_wp2_with fail
  refine (PB.out w1).mono ?_
  rintro e w2 ⟨hP, hb⟩
  have he := PNO.out _ _ _ _ hP (by rw [EB.out]; decide)
  rw [EB.out] at he
  subst he
  have L2 := Shut.mk (L1.out.below hb)
  have B2 := Shut.mk (below3 B1.out hb)
  clear hP hb
  go_wp2_with fail
  refine (PG.out w2).mono ?_
  rintro e w3 ⟨rfl, hb⟩
  have L3 := Shut.mk (L2.out.below hb)
  have B3 := Shut.mk (below3 B2.out hb)
  clear hb
  go_wp2_with fail
  refine (PH.out w3).mono ?_
  rintro e w4 ⟨hP, hb⟩
  have he := PNO.out _ _ _ _ hP (by rw [EH.out]; decide)
  rw [EH.out] at he
  subst he
  have L4 := Shut.mk (L3.out.below hb)
  have B4 := Shut.mk (below3 B3.out hb)
  clear hP hb
  go_wp2_with fail
  refine wp_region_till (fun _ => True) [] (by kernel_rfl) trivial (fun _ => ?_)
  refine wpAnyT_ready (rs := [0, 1]) (by kernel_rfl) (by simp) ?_
  refine AllReadyT.cons rfl (fun K hK => ?_) (AllReadyT.cons rfl (fun K hK => ?_) AllReadyT.nil)
  · refine step_made 23 36 (.int .u64 0) 8 Try.underlying23 info_u64 (by decide) _ rfl _ _ rfl 65537 65537 rfl rfl rfl (by decide) ?_
    intro ob0 hob0
    refine hK.out _ _ (fun _ => trivial) (fun _ => ?_)
    clear hK K
    try simp only [Act.put, List.setIfInBounds_toArray, List.set_cons_zero, List.set_cons_succ]
    refine wpAnyT_ready (rs := [1]) (by kernel_rfl) (by simp) ?_
    refine AllReadyT.cons rfl (fun K hK => ?_) AllReadyT.nil
    refine step_made 24 4 (.bool false) 1 Try.underlying24 info_bool (by decide) _ rfl _ _ rfl 65537 65537 rfl rfl rfl (by decide) ?_
    intro ob1 hob1
    refine hK.out _ _ (fun _ => trivial) (fun _ => ?_)
    clear hK K
    try simp only [Act.put, List.setIfInBounds_toArray, List.set_cons_zero, List.set_cons_succ]
    have Q1 := Shut.mk ((RA.out w4 ob0 hob0).alloc ob1).drew
    have Q2' := (RB.out (w4.alloc ob0) ob1 hob1).drew
    rw [World.size_alloc] at Q2'
    have Q2 := Shut.mk Q2'
    have PI1 := Shut.mk (PI.out _ _ _ Q1.out Q2.out)
    clear hob0 hob1 Q2'
    have BM : Shut (Below w4.heap.size w4 ((w4.alloc ob0).alloc ob1).drew) := ⟨below_drewN (((Below.refl w4.heap.size w4).alloc (Nat.le_refl _) ob0).alloc (by rw [World.size_alloc]; exact Nat.le_succ _) ob1) 1⟩
    refine wpAnyT_ready (rs := [2]) (by kernel_rfl) (by simp) ?_
    refine AllReadyT.cons rfl (fun K hK => ?_) AllReadyT.nil
    go_simp
    go_wp2_with fail
    refine (PI1.out).mono ?_
    rintro e w5 ⟨rfl, hb⟩
    have BM5 := Shut.mk (BM.out.trans (hb.mono BM.out.size))
    have L5 := Shut.mk (L4.out.below BM5.out)
    have B5 := Shut.mk (below3 B4.out BM5.out)
    clear hb
    go_wp2_with fail
    refine hK.out _ _ (fun _ => trivial) (fun _ => ?_)
    clear hK K
    try simp only [Act.put, List.setIfInBounds_toArray, List.set_cons_zero, List.set_cons_succ]
    refine wpAnyT_take (i := 3) (v := ?_) rfl (by kernel_rfl) (by kernel_rfl) (by kernel_rfl) (by kernel_rfl) (fun _ _ _ h => h) (fun _ => trivial) (Or.inl ⟨by rfl, ?_⟩) ?_
    rotate_left
    · (intro W1 _; go_simp <;> with_reducible rfl)
    try simp only [Act.put, List.setIfInBounds_toArray, List.set_cons_zero, List.set_cons_succ]
    refine wpAnyT_take (i := 4) (v := ?_) rfl (by kernel_rfl) (by kernel_rfl) (by kernel_rfl) (by kernel_rfl) (fun _ _ _ h => h) (fun _ => trivial) (Or.inl ⟨by rfl, ?_⟩) ?_
    rotate_left
    · (intro W1 _; go_simp <;> with_reducible rfl)
    try simp only [Act.put, List.setIfInBounds_toArray, List.set_cons_zero, List.set_cons_succ]
    refine wpAnyT_take (i := 5) (v := ?_) rfl (by kernel_rfl) (by kernel_rfl) (by kernel_rfl) (by kernel_rfl) (fun _ _ _ h => h) (fun _ => trivial) (Or.inl ⟨by rfl, ?_⟩) ?_
    rotate_left
    · (intro W1 _; go_simp <;> with_reducible rfl)
    try simp only [Act.put, List.setIfInBounds_toArray, List.set_cons_zero, List.set_cons_succ]
    refine wpAnyT_take (i := 6) (v := ?_) rfl (by kernel_rfl) (by kernel_rfl) (by kernel_rfl) (by kernel_rfl) (fun _ _ _ h => h) (fun _ => trivial) (Or.inl ⟨by rfl, ?_⟩) ?_
    rotate_left
    · (intro W1 _; go_simp <;> with_reducible rfl)
    try simp only [Act.put, List.setIfInBounds_toArray, List.set_cons_zero, List.set_cons_succ]
    refine wpAnyT_take (i := 7) (v := ?_) rfl (by kernel_rfl) (by kernel_rfl) (by kernel_rfl) (by kernel_rfl) (fun _ _ _ h => h) (fun _ => trivial) (Or.inl ⟨by rfl, ?_⟩) ?_
    rotate_left
    · (intro W1 _; go_simp <;> with_reducible rfl)
    try simp only [Act.put, List.setIfInBounds_toArray, List.set_cons_zero, List.set_cons_succ]
    refine wpAnyT_done (by kernel_rfl) ?_ _
    go_wp2_with fail
    refine (PN.out w5).mono ?_
    rintro e w6 ⟨hP, hb⟩
    obtain ⟨g2, rfl, hL⟩ := hP.yes (newE_fine.2 FE.out)
    have M6 : Shut (PLay w6 g2 [] []) := ⟨hL⟩
    have L6 := Shut.mk (L5.out.below hb)
    have B6 := Shut.mk (below3 B5.out hb)
    clear hP hL hb
    go_wp2_with fail
    refine (WK.out w6).mono ?_
    rintro e w7 ⟨rfl, hb⟩
    have M7 := Shut.mk (M6.out.below hb)
    have L7 := Shut.mk (L6.out.below hb)
    have B7 := Shut.mk (below3 B6.out hb)
    clear hb
    go_wp2_with fail
    refine ((XA.out g w7 L7.out).1).mono ?_
    rintro e w8 ⟨rfl, hb⟩
    have M8 := Shut.mk (M7.out.below hb)
    have L8 := Shut.mk (L7.out.below hb)
    have B8 := Shut.mk (below3 B7.out hb)
    clear hb
    go_wp2_with fail
    refine ((XA.out g w8 L8.out).2.1).mono ?_
    rintro e w9 ⟨rfl, hb⟩
    have M9 := Shut.mk (M8.out.below hb)
    have L9 := Shut.mk (L8.out.below hb)
    have B9 := Shut.mk (below3 B8.out hb)
    clear hb
    go_wp2_with fail
    refine ((XA.out g w9 L9.out).2.2.1).mono ?_
    rintro e w10 ⟨rfl, rfl⟩
    go_wp2_with fail
    refine ((XE.out g2 w9 M9.out).1).mono ?_
    rintro e w10 ⟨rfl, hb⟩
    have M10 := Shut.mk (M9.out.below hb)
    have L10 := Shut.mk (L9.out.below hb)
    have B10 := Shut.mk (below3 B9.out hb)
    clear hb
    go_wp2_with fail
    refine ((XE.out g2 w10 M10.out).2.1).mono ?_
    rintro e w11 ⟨rfl, rfl⟩
    go_wp2_with fail
    refine (NIL.out.1 w10).mono ?_
    rintro e w11 ⟨rfl, rfl⟩
    go_wp2_with fail
    refine (NIL.out.2.1 w10).mono ?_
    rintro e w11 ⟨rfl, rfl⟩
    go_wp2_with fail
    refine ((XA.out g w10 L10.out).2.2.2).mono ?_
    rintro e w11 ⟨rfl, hb⟩
    have M11 := Shut.mk (M10.out.below hb)
    have B11 := Shut.mk (below3 B10.out hb)
    clear hb
    go_wp2_with fail
    refine ((XE.out g2 w11 M11.out).2.2.1).mono ?_
    rintro e w12 ⟨rfl, hb⟩
    have M12 := Shut.mk (M11.out.below hb)
    have B12 := Shut.mk (below3 B11.out hb)
    clear hb
    go_wp2_with fail
    refine ((XE.out g2 w12 M12.out).2.2.2).mono ?_
    rintro e w13 ⟨rfl, rfl⟩
    go_wp2_with fail
    refine (NIL.out.2.2.1 w12).mono ?_
    rintro e w13 ⟨rfl, rfl⟩
    go_wp2_with fail
    refine (NIL.out.2.2.2 w12).mono ?_
    rintro e w13 ⟨rfl, rfl⟩
    go_wp2_with fail
    go_ret
    exact ⟨rfl, B12.out⟩
  · refine step_made 24 4 (.bool false) 1 Try.underlying24 info_bool (by decide) _ rfl _ _ rfl 65537 65537 rfl rfl rfl (by decide) ?_
    intro ob1 hob1
    refine hK.out _ _ (fun _ => trivial) (fun _ => ?_)
    clear hK K
    try simp only [Act.put, List.setIfInBounds_toArray, List.set_cons_zero, List.set_cons_succ]
    refine wpAnyT_ready (rs := [0]) (by kernel_rfl) (by simp) ?_
    refine AllReadyT.cons rfl (fun K hK => ?_) AllReadyT.nil
    refine step_made 23 36 (.int .u64 0) 8 Try.underlying23 info_u64 (by decide) _ rfl _ _ rfl 65537 65537 rfl rfl rfl (by decide) ?_
    intro ob0 hob0
    refine hK.out _ _ (fun _ => trivial) (fun _ => ?_)
    clear hK K
    try simp only [Act.put, List.setIfInBounds_toArray, List.set_cons_zero, List.set_cons_succ]
    have Q2 := Shut.mk ((RB.out w4 ob1 hob1).alloc ob0).drew
    have Q2' := (RA.out (w4.alloc ob1) ob0 hob0).drew
    rw [World.size_alloc] at Q2'
    have Q1 := Shut.mk Q2'
    have PI1 := Shut.mk (PI.out _ _ _ Q1.out Q2.out)
    clear hob0 hob1 Q2'
    have BM : Shut (Below w4.heap.size w4 ((w4.alloc ob1).alloc ob0).drew) := ⟨below_drewN (((Below.refl w4.heap.size w4).alloc (Nat.le_refl _) ob1).alloc (by rw [World.size_alloc]; exact Nat.le_succ _) ob0) 1⟩
    refine wpAnyT_ready (rs := [2]) (by kernel_rfl) (by simp) ?_
    refine AllReadyT.cons rfl (fun K hK => ?_) AllReadyT.nil
    go_simp
    go_wp2_with fail
    refine (PI1.out).mono ?_
    rintro e w5 ⟨rfl, hb⟩
    have BM5 := Shut.mk (BM.out.trans (hb.mono BM.out.size))
    have L5 := Shut.mk (L4.out.below BM5.out)
    have B5 := Shut.mk (below3 B4.out BM5.out)
    clear hb
    go_wp2_with fail
    refine hK.out _ _ (fun _ => trivial) (fun _ => ?_)
    clear hK K
    try simp only [Act.put, List.setIfInBounds_toArray, List.set_cons_zero, List.set_cons_succ]
    refine wpAnyT_take (i := 3) (v := ?_) rfl (by kernel_rfl) (by kernel_rfl) (by kernel_rfl) (by kernel_rfl) (fun _ _ _ h => h) (fun _ => trivial) (Or.inl ⟨by rfl, ?_⟩) ?_
    rotate_left
    · (intro W1 _; go_simp <;> with_reducible rfl)
    try simp only [Act.put, List.setIfInBounds_toArray, List.set_cons_zero, List.set_cons_succ]
    refine wpAnyT_take (i := 4) (v := ?_) rfl (by kernel_rfl) (by kernel_rfl) (by kernel_rfl) (by kernel_rfl) (fun _ _ _ h => h) (fun _ => trivial) (Or.inl ⟨by rfl, ?_⟩) ?_
    rotate_left
    · (intro W1 _; go_simp <;> with_reducible rfl)
    try simp only [Act.put, List.setIfInBounds_toArray, List.set_cons_zero, List.set_cons_succ]
    refine wpAnyT_take (i := 5) (v := ?_) rfl (by kernel_rfl) (by kernel_rfl) (by kernel_rfl) (by kernel_rfl) (fun _ _ _ h => h) (fun _ => trivial) (Or.inl ⟨by rfl, ?_⟩) ?_
    rotate_left
    · (intro W1 _; go_simp <;> with_reducible rfl)
    try simp only [Act.put, List.setIfInBounds_toArray, List.set_cons_zero, List.set_cons_succ]
    refine wpAnyT_take (i := 6) (v := ?_) rfl (by kernel_rfl) (by kernel_rfl) (by kernel_rfl) (by kernel_rfl) (fun _ _ _ h => h) (fun _ => trivial) (Or.inl ⟨by rfl, ?_⟩) ?_
    rotate_left
    · (intro W1 _; go_simp <;> with_reducible rfl)
    try simp only [Act.put, List.setIfInBounds_toArray, List.set_cons_zero, List.set_cons_succ]
    refine wpAnyT_take (i := 7) (v := ?_) rfl (by kernel_rfl) (by kernel_rfl) (by kernel_rfl) (by kernel_rfl) (fun _ _ _ h => h) (fun _ => trivial) (Or.inl ⟨by rfl, ?_⟩) ?_
    rotate_left
    · (intro W1 _; go_simp <;> with_reducible rfl)
    try simp only [Act.put, List.setIfInBounds_toArray, List.set_cons_zero, List.set_cons_succ]
    refine wpAnyT_done (by kernel_rfl) ?_ _
    go_wp2_with fail
    refine (PN.out w5).mono ?_
    rintro e w6 ⟨hP, hb⟩
    obtain ⟨g2, rfl, hL⟩ := hP.yes (newE_fine.2 FE.out)
    have M6 : Shut (PLay w6 g2 [] []) := ⟨hL⟩
    have L6 := Shut.mk (L5.out.below hb)
    have B6 := Shut.mk (below3 B5.out hb)
    clear hP hL hb
    go_wp2_with fail
    refine (WK.out w6).mono ?_
    rintro e w7 ⟨rfl, hb⟩
    have M7 := Shut.mk (M6.out.below hb)
    have L7 := Shut.mk (L6.out.below hb)
    have B7 := Shut.mk (below3 B6.out hb)
    clear hb
    go_wp2_with fail
    refine ((XA.out g w7 L7.out).1).mono ?_
    rintro e w8 ⟨rfl, hb⟩
    have M8 := Shut.mk (M7.out.below hb)
    have L8 := Shut.mk (L7.out.below hb)
    have B8 := Shut.mk (below3 B7.out hb)
    clear hb
    go_wp2_with fail
    refine ((XA.out g w8 L8.out).2.1).mono ?_
    rintro e w9 ⟨rfl, hb⟩
    have M9 := Shut.mk (M8.out.below hb)
    have L9 := Shut.mk (L8.out.below hb)
    have B9 := Shut.mk (below3 B8.out hb)
    clear hb
    go_wp2_with fail
    refine ((XA.out g w9 L9.out).2.2.1).mono ?_
    rintro e w10 ⟨rfl, rfl⟩
    go_wp2_with fail
    refine ((XE.out g2 w9 M9.out).1).mono ?_
    rintro e w10 ⟨rfl, hb⟩
    have M10 := Shut.mk (M9.out.below hb)
    have L10 := Shut.mk (L9.out.below hb)
    have B10 := Shut.mk (below3 B9.out hb)
    clear hb
    go_wp2_with fail
    refine ((XE.out g2 w10 M10.out).2.1).mono ?_
    rintro e w11 ⟨rfl, rfl⟩
    go_wp2_with fail
    refine (NIL.out.1 w10).mono ?_
    rintro e w11 ⟨rfl, rfl⟩
    go_wp2_with fail
    refine (NIL.out.2.1 w10).mono ?_
    rintro e w11 ⟨rfl, rfl⟩
    go_wp2_with fail
    refine ((XA.out g w10 L10.out).2.2.2).mono ?_
    rintro e w11 ⟨rfl, hb⟩
    have M11 := Shut.mk (M10.out.below hb)
    have B11 := Shut.mk (below3 B10.out hb)
    clear hb
    go_wp2_with fail
    refine ((XE.out g2 w11 M11.out).2.2.1).mono ?_
    rintro e w12 ⟨rfl, hb⟩
    have M12 := Shut.mk (M11.out.below hb)
    have B12 := Shut.mk (below3 B11.out hb)
    clear hb
    go_wp2_with fail
    refine ((XE.out g2 w12 M12.out).2.2.2).mono ?_
    rintro e w13 ⟨rfl, rfl⟩
    go_wp2_with fail
    refine (NIL.out.2.2.1 w12).mono ?_
    rintro e w13 ⟨rfl, rfl⟩
    go_wp2_with fail
    refine (NIL.out.2.2.2 w12).mono ?_
    rintro e w13 ⟨rfl, rfl⟩
    go_wp2_with fail
    go_ret
    exact ⟨rfl, B12.out⟩

end Go.Proofs.Ythchnjimhcjagaa
