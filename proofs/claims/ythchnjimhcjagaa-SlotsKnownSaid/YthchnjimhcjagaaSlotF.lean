/- Walk: New, where a layout may be. -/
import Derived.Test.YthchnjimhcjagaaSlotR
import Derived.Laws.EntriesVeiled
namespace Go.Proofs.Ythchnjimhcjagaa
set_option linter.unusedVariables false
set_option linter.unusedSimpArgs false
open Go Go.RowKit

theorem add64_fits (x y s : Nat) (h : x + y = s) (hs : s < 18446744073709551616) (w : World) :
    (callFunc 19 #[.int .u64 x, .int .u64 y, .int .u64 0]).run Try.prog w = .ok (.value (.tuple #[.int .u64 (s : Int), .int .u64 0])) w := by
  have := add64_run x y 0 (by decide) w
  rw [show (x + y + 0) % 18446744073709551616 = s by omega, show (x + y + 0) / 18446744073709551616 = 0 by omega] at this
  exact this

theorem add64_over (x y : Nat) (hx : x < 18446744073709551616) (hy : y < 18446744073709551616) (h : 18446744073709551616 ≤ x + y) (w : World) :
    (callFunc 19 #[.int .u64 x, .int .u64 y, .int .u64 0]).run Try.prog w = .ok (.value (.tuple #[.int .u64 ((x + y) % 18446744073709551616 : Nat), .int .u64 1])) w := by
  have := add64_run x y 0 (by decide) w
  rw [show (x + y + 0) / 18446744073709551616 = 1 by omega] at this
  exact this

theorem grown_heap {W W' : World} {row : Option Nat} {k : Nat} {o : Obj} (hg : W.grownBy W' row) (h : W.heap[k]? = some o) (hr : row ≠ some k) : W'.heap[k]? = some o :=
  (hg.block k (Array.getElem?_eq_some_iff.1 h).1 (Ne.symm hr)).trans h

theorem heap_alloc_old1 (W : World) (a b : Obj) : ((W.alloc a).alloc b).heap[W.heap.size]? = some a :=
  (Below.heap_alloc (W.alloc a) b W.heap.size (by rw [World.size_alloc]; omega)).trans (heap_alloc_new W a)

theorem heap_alloc_new1 (W : World) (a b : Obj) : ((W.alloc a).alloc b).heap[W.heap.size + 1]? = some b := by
  have := heap_alloc_new (W.alloc a) b
  rwa [World.size_alloc] at this

/-- What the loop of New keeps. -/
def NewI (ws : List Nat) (bs : List Bool) (w : World) (k : Nat) (W : World) : Prop :=
  ∃ ve vw vs : Value, Laid W (w.heap.size + 1) 49 #[ve, vw, vs, .nilFunc] ∧ R3 w (w.heap.size + 1) ve vw vs (Ends ws bs k) (Who bs k) (Sums ws bs k) W ∧ Pre ws bs k < 18446744073709551616

theorem newI_start (ws : List Nat) (bs : List Bool) (w : World) : NewI ws bs w 0 ((w.alloc (.cells #[.int .u64 0] 36)).alloc (.cells #[.slice none 0 0, .slice none 0 0, .slice (some ⟨w.heap.size, 0, none⟩) 1 1, .nilFunc] 49)) := by
  have L1 := Laid.new (w.alloc (.cells #[.int .u64 0] 36)) 49 #[.slice none 0 0, .slice none 0 0, .slice (some ⟨w.heap.size, 0, none⟩) 1 1, .nilFunc]
  rw [World.size_alloc] at L1
  have R1 : RowAt (w.alloc (.cells #[.int .u64 0] 36)) 36 w.heap.size 1 [.int .u64 0] := RowAt.new w 36 [.int .u64 0] (by decide)
  refine ⟨_, _, _, L1, ⟨⟨Row.nil _ _, Row.nil _ _, (R1.alloc _).row⟩, ⟨?_, ?_, ?_⟩, ⟨?_, ?_, ?_⟩, ⟨?_, ?_, ?_⟩, ((Below.refl w.heap.size w).alloc (Nat.le_refl _) _).alloc (by simp) _, L1.lt, by omega⟩, by simp [Pre]⟩
  · intro h; cases h
  · intro h; cases h
  · intro h
    have e : w.heap.size = w.heap.size + 1 := Option.some.inj h
    omega
  · intro k hk; cases hk
  · intro k hk; cases hk
  · intro k hk; cases hk
  · intro k hk; cases hk
  · intro k hk; cases hk
  · intro k hk
    have e : w.heap.size = k := Option.some.inj hk
    omega

theorem NewIs.yes {ws : List Nat} {bs : List Bool} {w W : World} {k gs cs : Nat} {ve vw : Value} (h1 : k = bs.length) (h2 : k ≤ 65536) (h3 : 0 ∉ ws) (hk : ws.length = k) (hp : Pre ws bs k < 18446744073709551616)
    (hl : Laid W (w.heap.size + 1) 49 #[ve, vw, .slice (some ⟨gs, 0, none⟩) (k + 1) cs, .nilFunc]) (hr : R3 w (w.heap.size + 1) ve vw (.slice (some ⟨gs, 0, none⟩) (k + 1) cs) (Ends ws bs k) (Who bs k) (Sums ws bs k) W) :
    NewIs ws bs ((W.setCell ⟨w.heap.size + 1, 2, none⟩ (.slice (some ⟨gs, 0, none⟩) (k + 1) (k + 1))).setCell ⟨w.heap.size + 1, 3, none⟩ (.func (.func 20) #[.agg #[ve, vw]] #[])) (.returned (.tuple #[.pointer (some ⟨w.heap.size + 1, 0, none⟩), .int .i64 0])) := by
  subst hk
  refine .inr ⟨?_, w.heap.size + 1, rfl, ve, vw, .slice (some ⟨gs, 0, none⟩) (ws.length + 1) (ws.length + 1), ?_, ?_, ?_, ?_⟩
  · unfold NewE
    rw [if_neg (by omega), if_neg (by omega), if_neg h3, if_neg (by omega)]
  · exact (hl.set_ 2 _).set_ 3 _
  · exact ((hr.store 2 _).store 3 _).1.1
  · exact ((hr.store 2 _).store 3 _).1.2.1
  · have hr' := ((hr.store 2 (.slice (some ⟨gs, 0, none⟩) (ws.length + 1) (ws.length + 1))).store 3 (.func (.func 20) #[.agg #[ve, vw]] #[])).1.2.2
    obtain ⟨g, c, e, hg⟩ := hr'.some_ (by rw [Sums_len]; omega)
    injection e with e1 e2 e3
    injection e1 with e1
    injection e1 with e1
    subst e1
    exact ⟨gs, _, c, by rw [Sums_len], hg⟩

set_option maxRecDepth 100000 in
set_option maxHeartbeats 1000000 in
theorem new_yes (vw vs : Value) (ws : List Nat) (bs : List Bool) (w : World) (hw : Row w 36 vw (U ws)) (hs : Row w 4 vs (bs.map Value.bool)) (h1 : ws.length = bs.length) (h2 : ws.length ≤ 65536) (h3 : 0 ∉ ws)
    (hu : ∀ x ∈ ws, x < 18446744073709551616) :
    Calls Try.prog 8 #[vw, vs] w fun e w' => NewIs ws bs w' e ∧ Below w.heap.size w w' := by
  have HW := Shut.mk hw
  have HS := Shut.mk hs
  have C : Shut (Calls Try.prog 18 #[vw, .int .u64 0] w fun e w' => e = .returned (.bool false) ∧ w = w') := ⟨decide_eq_false h3 ▸ contains_any _ ws 0 w hw (by omega)⟩
  obtain ⟨A, c, rfl⟩ := hw.formU
  obtain ⟨A', c', rfl⟩ := hs.formB
  rw [← h1] at HS ⊢
  have B0 := Shut.mk (Below.refl w.heap.size w)
  have g3 : ¬ (ws.length : Int) > 65536 := by omega
  have H := Shut.mk (And.intro h1 (And.intro h2 hu))
  have H3 := Shut.mk h3
  have hn : ws.length < 1000000 := by omega
  clear hw hs h1 h2 h3 hu
  generalize hN : ws.length = n at *
  have HN := Shut.mk hN
  clear hN
  go_enter Try.func8, Try.ntmps8
  go_wp2_with fail
  refine (C.out).mono ?_
  rintro e w1 ⟨rfl, rfl⟩
  go_wp2_with fail
  go_loopw [30] (fun i wr => ∃ k : Nat, k ≤ n ∧ i = .int .i64 k ∧ NewI ws bs w k wr) (fun i _ => n - (intOf i).toNat)
  case atStart => exact ⟨0, by omega, rfl, newI_start ws bs w⟩
  case round =>
    obtain ⟨k, hk, rfl, hI⟩ := hrel
    by_cases hkn : k < n
    · have hkn2 : (k : Int) < (n : Int) := by omega
      obtain ⟨ve, vw, vs, hl, hR, hpre⟩ := hI
      have hbel := hR.2.2.2.2.1
      obtain ⟨gs, cs, rfl, hgs⟩ := hR.1.2.2.some_ (by rw [Sums_len]; omega)
      have hsl := Sums_len ws bs k
      rw [hsl] at hl hR
      have c2 := hl.cell 2
      simp at c2
      have cS : wr.cell? ⟨gs, k, none⟩ = some (.int .u64 (Pre ws bs k : Nat)) := by rw [hgs.u64 (by rw [Sums_len]; omega), Sums_get ws bs k k (Nat.le_refl _)]
      have kk1 : (k : Int) < (k : Int) + 1 := by omega
      obtain ⟨gb, cb, hb1, hgb⟩ : ∃ gb cb, A' = some ⟨gb, 0, none⟩ ∧ RowAt w 4 gb cb (bs.map Value.bool) := by
        rcases HS.out.cases with ⟨h1, h2⟩ | ⟨g, c, h1, h2⟩
        · have := congrArg List.length h2
          have := HN.out
          have := H.out.1
          simp at *
          omega
        · injection h1 with h1
          exact ⟨g, c, h1, h2⟩
      subst hb1
      have hgbl := hgb.lt
      have cB0' : w.cell? ⟨gb, k, none⟩ = some (.bool (bs.getD k false)) := hgb.bool (by have := HN.out; have := H.out.1; omega)
      have cB : wr.cell? ⟨gb, k, none⟩ = some (.bool (bs.getD k false)) := (hbel.cell (p := ⟨gb, k, none⟩) hgb.lt).trans (hgb.bool (by have := HN.out; have := H.out.1; omega))
      have RS : Shut (Row wr 36 (.slice (some ⟨gs, 0, none⟩) (k + 1) cs) (U (Sums ws bs k))) := ⟨hR.1.2.2⟩
      have LS : (U (Sums ws bs k)).length = k + 1 := by simp [hsl]
      have L3 := Shut.mk hl
      have RR := Shut.mk hR
      have hbl := hl.lt
      have f2 := hl.frozen 2
      clear hbel hl hgs hR
      by_cases hb : bs.getD k false = true
      · have hP1 : Pre ws bs (k + 1) = Pre ws bs k + ws.getD k 0 := by rw [Pre, if_pos hb]
        have hxu : ws.getD k 0 < 18446744073709551616 := H.out.2.2 _ (getD_mem ws k (by rw [HN.out]; exact hkn))
        rw [hb] at cB cB0'
        have cB0 := Shut.mk cB0'
        clear cB0'
        obtain ⟨ga, ca, hga1, hga⟩ : ∃ ga ca, A = some ⟨ga, 0, none⟩ ∧ RowAt w 36 ga ca (U ws) := by
          obtain ⟨g, c, h1, h2⟩ := HW.out.some_ (by rw [HN.out]; omega)
          injection h1 with h1
          exact ⟨g, c, h1, h2⟩
        subst hga1
        have cW : wr.cell? ⟨ga, k, none⟩ = some (.int .u64 (ws.getD k 0 : Nat)) := (RR.out.2.2.2.2.1.cell (p := ⟨ga, k, none⟩) hga.lt).trans (hga.u64 (by rw [HN.out]; exact hkn))
        by_cases hov : 18446744073709551616 ≤ Pre ws bs k + ws.getD k 0
        · have E : Shut (NewE ws bs = 21) := ⟨by
            have h1 := H.out.1
            have h2 := H.out.2.1
            have h5 := Pre_rises ws bs (k + 1) n (by omega)
            unfold NewE
            rw [HN.out, if_neg (by omega), if_neg (by omega), if_neg H3.out, if_pos (by omega)]⟩
          have ADD := add64_over (Pre ws bs k) (ws.getD k 0) hpre hxu hov
          generalize (Pre ws bs k + ws.getD k 0) % 18446744073709551616 = y at *
          generalize ws.getD k 0 = x at *
          generalize Pre ws bs k = P at *
          clear hb hP1 hov hga
          go_wp2_with (simp only [ADD])
          go_ret2
          exact ⟨NewIs.no (k := 21) (by decide) E.out rfl, RR.out.2.2.2.2.1⟩
        · have hE1 : Shut (Ends ws bs (k + 1) = Ends ws bs k ++ [Pre ws bs (k + 1)] ∧ Who bs (k + 1) = Who bs k ++ [k]) := ⟨by rw [Ends, if_pos hb], by rw [Who, if_pos hb]⟩
          have hS1 : Shut (Sums ws bs (k + 1) = Sums ws bs k ++ [Pre ws bs (k + 1)]) := ⟨rfl⟩
          have PR : Shut (Pre ws bs (k + 1) < 18446744073709551616) := ⟨by omega⟩
          have PRF : Shut (PreFits ws bs (k + 1)) := ⟨PR.out⟩
          have ADD := add64_fits (Pre ws bs k) (ws.getD k 0) (Pre ws bs (k + 1)) hP1.symm PR.out
          have WL := Shut.mk (And.intro (Ends_len ws bs k) (Who_len bs k))
          generalize Pre ws bs (k + 1) = P' at *
          generalize ws.getD k 0 = x at *
          generalize Pre ws bs k = P at *
          clear hb hP1 hov hga hpre
          go_wp2_with (first
            | simp only [ADD]
            | refine wpList_push 23 36 (.int .u64 0) 8 Try.underlying23 info_u64 rfl (by decide) rfl (.tmp 60) (.tmp 62) rfl _ (.slice (some ⟨gs, 0, none⟩) (k + 1) cs) (U (Sums ws bs k)) rfl (RS.out.alloc _) wr.heap.size (.int .u64 P') rfl (heap_alloc_new wr _) rfl (by rw [LS]; omega) ?_)
          intro g cap w' hr' hg' hor hlt
          rw [LS] at hr' ⊢
          have RN : Shut (R3 w (w.heap.size + 1) ve vw (.slice (some ⟨g, 0, none⟩) (k + 1 + 1) cap) (Ends ws bs k) (Who bs k) (Sums ws bs k ++ [P']) w') := ⟨(RR.out.alloc _).push_s hr' hg' hor⟩
          have LN : Shut (Laid w' (w.heap.size + 1) 49 #[ve, vw, .slice (some ⟨gs, 0, none⟩) (k + 1) cs, .nilFunc]) := ⟨(L3.out.alloc _).grown hg' RR.out.2.1.2.2⟩
          have d2 := LN.out.cell 2
          have e2 := LN.out.frozen 2
          simp at d2
          have RN2 : Shut (R3 w (w.heap.size + 1) ve vw (.slice (some ⟨g, 0, none⟩) (k + 1 + 1) cap) (Ends ws bs k) (Who bs k) (Sums ws bs k ++ [P']) (w'.setCell ⟨w.heap.size + 1, 2, none⟩ (.slice (some ⟨g, 0, none⟩) (k + 1 + 1) cap))) := ⟨RN.out.store 2 _⟩
          have LN2 : Shut (Laid (w'.setCell ⟨w.heap.size + 1, 2, none⟩ (.slice (some ⟨g, 0, none⟩) (k + 1 + 1) cap)) (w.heap.size + 1) 49 #[ve, vw, .slice (some ⟨g, 0, none⟩) (k + 1 + 1) cap, .nilFunc]) := ⟨LN.out.set_ 2 _⟩
          have cB2 : (w'.setCell ⟨w.heap.size + 1, 2, none⟩ (.slice (some ⟨g, 0, none⟩) (k + 1 + 1) cap)).cell? ⟨gb, k, none⟩ = some (.bool true) := (RN2.out.2.2.2.2.1.cell (p := ⟨gb, k, none⟩) hgbl).trans cB0.out
          clear hr' hg' hor
          go_wp2_with fail
          clear cS cB cW c2 d2 e2 cB2 f2
          generalize w'.setCell ⟨w.heap.size + 1, 2, none⟩ (.slice (some ⟨g, 0, none⟩) (k + 1 + 1) cap) = W at *
          clear RN LN RR L3 RS ADD
          have hwk : IntKind.u64.wrap (k : Int) = (k : Int) := by rw [IntKind.wrap_u64]; omega
          have HKN := Shut.mk hkn
          refine wp_region_till (fun W' => W'.cell? ⟨w.heap.size + 1, 0, none⟩ = some ve ∧ W'.cell? ⟨w.heap.size + 1, 1, none⟩ = some vw) [22, 26] (by kernel_rfl) ⟨LN2.out.cell 0, LN2.out.cell 1⟩ (fun hS => ?_)
          refine wpAnyT_take (i := 0) (v := ?_) rfl (by kernel_rfl) (by kernel_rfl) (by kernel_rfl) (by kernel_rfl) (fun _ _ _ h => h) (fun _ => hS) (Or.inl ⟨by rfl, ?_⟩) ?_
          rotate_left
          · (intro W1 _; go_simp <;> with_reducible rfl)
          try simp only [Act.put, List.setIfInBounds_toArray, List.set_cons_zero, List.set_cons_succ]
          refine wpAnyT_take (i := 1) (v := ?_) rfl (by kernel_rfl) (by kernel_rfl) (by kernel_rfl) (by kernel_rfl) (fun _ _ _ h => h) (fun _ => hS) (Or.inl ⟨by rfl, ?_⟩) ?_
          rotate_left
          · (intro W1 _; go_simp <;> with_reducible rfl)
          try simp only [Act.put, List.setIfInBounds_toArray, List.set_cons_zero, List.set_cons_succ]
          refine wpAnyT_take (i := 2) (v := ?_) rfl (by kernel_rfl) (by kernel_rfl) (by kernel_rfl) (by kernel_rfl) (fun _ _ _ h => h) (fun _ => hS) (Or.inl ⟨by rfl, ?_⟩) ?_
          rotate_left
          · (intro W1 _; go_simp <;> with_reducible rfl)
          try simp only [Act.put, List.setIfInBounds_toArray, List.set_cons_zero, List.set_cons_succ]
          refine wpAnyT_take (i := 3) (v := ?_) rfl (by kernel_rfl) (by kernel_rfl) (by kernel_rfl) (by kernel_rfl) (fun _ _ _ h => h) (fun _ => hS) (Or.inl ⟨by rfl, ?_⟩) ?_
          rotate_left
          · (intro W1 _; go_simp <;> with_reducible rfl)
          try simp only [Act.put, List.setIfInBounds_toArray, List.set_cons_zero, List.set_cons_succ]
          refine wpAnyT_take (i := 4) (v := ?_) rfl (by kernel_rfl) (by kernel_rfl) (by kernel_rfl) (by kernel_rfl) (fun _ _ _ h => h) (fun _ => hS) (Or.inl ⟨by rfl, ?_⟩) ?_
          rotate_left
          · (intro W1 _; go_simp <;> with_reducible rfl)
          try simp only [Act.put, List.setIfInBounds_toArray, List.set_cons_zero, List.set_cons_succ]
          refine wpAnyT_take (i := 5) (v := ?_) rfl (by kernel_rfl) (by kernel_rfl) (by kernel_rfl) (by kernel_rfl) (fun _ _ _ h => h) (fun _ => hS) (Or.inl ⟨by rfl, ?_⟩) ?_
          rotate_left
          · (intro W1 _; go_simp <;> with_reducible rfl)
          try simp only [Act.put, List.setIfInBounds_toArray, List.set_cons_zero, List.set_cons_succ]
          refine wpAnyT_load (i := 6) (v := ?_) rfl (by kernel_rfl) (by kernel_rfl) (by kernel_rfl) (by kernel_rfl) (fun _ _ _ h => h) (fun _ => hS) (by kernel_rfl) (by kernel_rfl) (Or.inl ⟨by rfl, ?_⟩) ?_
          rotate_left
          · (intro W1 hSw; obtain ⟨q1, q2⟩ := hSw; go_simp <;> with_reducible rfl)
          try simp only [Act.put, List.setIfInBounds_toArray, List.set_cons_zero, List.set_cons_succ]
          refine wpAnyT_take (i := 7) (v := ?_) rfl (by kernel_rfl) (by kernel_rfl) (by kernel_rfl) (by kernel_rfl) (fun _ _ _ h => h) (fun _ => hS) (Or.inl ⟨by rfl, ?_⟩) ?_
          rotate_left
          · (intro W1 _; go_simp <;> with_reducible rfl)
          try simp only [Act.put, List.setIfInBounds_toArray, List.set_cons_zero, List.set_cons_succ]
          refine wpAnyT_take (i := 10) (v := ?_) rfl (by kernel_rfl) (by kernel_rfl) (by kernel_rfl) (by kernel_rfl) (fun _ _ _ h => h) (fun _ => hS) (Or.inl ⟨by rfl, ?_⟩) ?_
          rotate_left
          · (intro W1 _; go_simp <;> with_reducible rfl)
          try simp only [Act.put, List.setIfInBounds_toArray, List.set_cons_zero, List.set_cons_succ]
          refine wpAnyT_take (i := 11) (v := ?_) rfl (by kernel_rfl) (by kernel_rfl) (by kernel_rfl) (by kernel_rfl) (fun _ _ _ h => h) (fun _ => hS) (Or.inl ⟨by rfl, ?_⟩) ?_
          rotate_left
          · (intro W1 _; go_simp <;> with_reducible rfl)
          try simp only [Act.put, List.setIfInBounds_toArray, List.set_cons_zero, List.set_cons_succ]
          refine wpAnyT_take (i := 12) (v := ?_) rfl (by kernel_rfl) (by kernel_rfl) (by kernel_rfl) (by kernel_rfl) (fun _ _ _ h => h) (fun _ => hS) (Or.inl ⟨by rfl, ?_⟩) ?_
          rotate_left
          · (intro W1 _; go_simp <;> with_reducible rfl)
          try simp only [Act.put, List.setIfInBounds_toArray, List.set_cons_zero, List.set_cons_succ]
          refine wpAnyT_take (i := 13) (v := ?_) rfl (by kernel_rfl) (by kernel_rfl) (by kernel_rfl) (by kernel_rfl) (fun _ _ _ h => h) (fun _ => hS) (Or.inl ⟨by rfl, ?_⟩) ?_
          rotate_left
          · (intro W1 _; go_simp <;> with_reducible rfl)
          try simp only [Act.put, List.setIfInBounds_toArray, List.set_cons_zero, List.set_cons_succ]
          refine wpAnyT_load (i := 14) (v := ?_) rfl (by kernel_rfl) (by kernel_rfl) (by kernel_rfl) (by kernel_rfl) (fun _ _ _ h => h) (fun _ => hS) (by kernel_rfl) (by kernel_rfl) (Or.inl ⟨by rfl, ?_⟩) ?_
          rotate_left
          · (intro W1 hSw; obtain ⟨q1, q2⟩ := hSw; go_simp <;> with_reducible rfl)
          try simp only [Act.put, List.setIfInBounds_toArray, List.set_cons_zero, List.set_cons_succ]
          refine wpAnyT_take (i := 15) (v := ?_) rfl (by kernel_rfl) (by kernel_rfl) (by kernel_rfl) (by kernel_rfl) (fun _ _ _ h => h) (fun _ => hS) (Or.inl ⟨by rfl, ?_⟩) ?_
          rotate_left
          · (intro W1 _; go_simp <;> with_reducible rfl)
          try simp only [Act.put, List.setIfInBounds_toArray, List.set_cons_zero, List.set_cons_succ]
          refine wpAnyT_take (i := 16) (v := ?_) rfl (by kernel_rfl) (by kernel_rfl) (by kernel_rfl) (by kernel_rfl) (fun _ _ _ h => h) (fun _ => hS) (Or.inl ⟨by rfl, ?_⟩) ?_
          rotate_left
          · (intro W1 _; go_simp <;> with_reducible rfl)
          try simp only [Act.put, List.setIfInBounds_toArray, List.set_cons_zero, List.set_cons_succ]
          have HEn : Shut ((U (Ends ws bs k)).length < 1000000 ∧ (U (Who bs k)).length < 1000000) := ⟨by have := WL.out.1; have := WL.out.2; simp; omega, by have := WL.out.2; simp; omega⟩
          clear HW HS H H3 HN WL B0 C hgb hgbl cB0 kk1 LS hsl hbl hkn2 hkn
          refine wpAnyT_ready (rs := [8, 17]) (by kernel_rfl) (by simp) ?_
          refine AllReadyT.cons rfl (fun K hK => ?_) ?_
          · go_simp
            refine hK.out _ _ (fun _ => ⟨(LN2.out.alloc _).cell 0, (LN2.out.alloc _).cell 1⟩) (fun hS => ?_)
            clear hK K
            try simp only [Act.put, List.setIfInBounds_toArray, List.set_cons_zero, List.set_cons_succ]
            have hS := hS (by kernel_rfl)
            refine wpAnyT_ready (rs := [9, 17]) (by kernel_rfl) (by simp) ?_
            refine AllReadyT.cons rfl (fun K hK => ?_) ?_
            · refine step_push 23 36 (.int .u64 0) 8 Try.underlying23 info_u64 rfl (by decide) rfl (.tmp 76) (.tmp 78) rfl _ ve (U (Ends ws bs k)) rfl ((RN2.out.alloc _).drew).1.1 (W.heap.size) (.int .u64 P') rfl (heap_alloc_new W _) rfl HEn.out.1 ?_
              intro g1 cap1 w1 hr1 hg1 hor1 hlt1
              have RN3 : Shut (R3 w (w.heap.size + 1) (.slice (some ⟨g1, 0, none⟩) ((U (Ends ws bs k)).length + 1) cap1) vw (.slice (some ⟨g, 0, none⟩) (k + 1 + 1) cap) (Ends ws bs k ++ [P']) (Who bs k) (Sums ws bs k ++ [P']) w1) := ⟨((RN2.out.alloc _).drew).push_e hr1 hg1 hor1⟩
              have LN3 : Shut (Laid w1 (w.heap.size + 1) 49 #[ve, vw, (.slice (some ⟨g, 0, none⟩) (k + 1 + 1) cap), .nilFunc]) := ⟨Laid.grown (W := ((World.alloc W (.cells #[.int .u64 P'] 36))).drew) ((LN2.out.alloc _)) hg1 RN2.out.2.1.1⟩
              clear hr1 hg1 hor1 hlt1
              refine hK.out _ _ (fun _ => ⟨LN3.out.cell 0, LN3.out.cell 1⟩) (fun hS => ?_)
              clear hK K
              try simp only [Act.put, List.setIfInBounds_toArray, List.set_cons_zero, List.set_cons_succ]
              have hS := hS (by kernel_rfl)
              refine wpAnyT_ready (rs := [17]) (by kernel_rfl) (by simp) ?_
              refine AllReadyT.cons rfl (fun K hK => ?_) AllReadyT.nil
              go_simp
              refine hK.out _ _ (fun _ => ⟨(LN3.out.alloc _).cell 0, (LN3.out.alloc _).cell 1⟩) (fun hS => ?_)
              clear hK K
              try simp only [Act.put, List.setIfInBounds_toArray, List.set_cons_zero, List.set_cons_succ]
              have hS := hS (by kernel_rfl)
              refine wpAnyT_ready (rs := [18]) (by kernel_rfl) (by simp) ?_
              refine AllReadyT.cons rfl (fun K hK => ?_) AllReadyT.nil
              refine step_push 23 36 (.int .u64 0) 8 Try.underlying23 info_u64 rfl (by decide) rfl (.tmp 84) (.tmp 87) rfl _ vw (U (Who bs k)) rfl (RN3.out.alloc _).1.2.1 (w1.heap.size) (.int .u64 k) rfl (heap_alloc_new w1 _) rfl HEn.out.2 ?_
              intro g2 cap2 w2 hr2 hg2 hor2 hlt2
              have RN4 : Shut (R3 w (w.heap.size + 1) (.slice (some ⟨g1, 0, none⟩) ((U (Ends ws bs k)).length + 1) cap1) (.slice (some ⟨g2, 0, none⟩) ((U (Who bs k)).length + 1) cap2) (.slice (some ⟨g, 0, none⟩) (k + 1 + 1) cap) (Ends ws bs k ++ [P']) (Who bs k ++ [k]) (Sums ws bs k ++ [P']) w2) := ⟨(RN3.out.alloc _).push_w hr2 hg2 hor2⟩
              have LN4 : Shut (Laid w2 (w.heap.size + 1) 49 #[ve, vw, (.slice (some ⟨g, 0, none⟩) (k + 1 + 1) cap), .nilFunc]) := ⟨(LN3.out.alloc _).grown hg2 RN3.out.2.1.2.1⟩
              clear hr2 hg2 hor2 hlt2
              refine hK.out _ _ (fun _ => ⟨LN4.out.cell 0, LN4.out.cell 1⟩) (fun hS => ?_)
              clear hK K
              try simp only [Act.put, List.setIfInBounds_toArray, List.set_cons_zero, List.set_cons_succ]
              have hS := hS (by kernel_rfl)
              refine wpAnyT_take (i := 19) (v := ?_) rfl (by kernel_rfl) (by kernel_rfl) (by kernel_rfl) (by kernel_rfl) (fun _ _ _ h => h) (fun _ => hS) (Or.inl ⟨by rfl, ?_⟩) ?_
              rotate_left
              · (intro W1 _; go_simp <;> with_reducible rfl)
              try simp only [Act.put, List.setIfInBounds_toArray, List.set_cons_zero, List.set_cons_succ]
              refine wpAnyT_take (i := 20) (v := ?_) rfl (by kernel_rfl) (by kernel_rfl) (by kernel_rfl) (by kernel_rfl) (fun _ _ _ h => h) (fun _ => hS) (Or.inl ⟨by rfl, ?_⟩) ?_
              rotate_left
              · (intro W1 _; go_simp <;> with_reducible rfl)
              try simp only [Act.put, List.setIfInBounds_toArray, List.set_cons_zero, List.set_cons_succ]
              refine wpAnyT_take (i := 21) (v := ?_) rfl (by kernel_rfl) (by kernel_rfl) (by kernel_rfl) (by kernel_rfl) (fun _ _ _ h => h) (fun _ => hS) (Or.inl ⟨by rfl, ?_⟩) ?_
              rotate_left
              · (intro W1 _; go_simp <;> with_reducible rfl)
              try simp only [Act.put, List.setIfInBounds_toArray, List.set_cons_zero, List.set_cons_succ]
              have dE := LN4.out.cell 0
              have dW := LN4.out.cell 1
              have fE := LN4.out.frozen 0
              have fW := LN4.out.frozen 1
              simp at dE dW
              refine wpAnyT_ready (rs := [22]) (by kernel_rfl) (by simp) ?_
              refine AllReadyT.cons rfl (fun K hK => ?_) AllReadyT.nil
              go_simp
              refine hK.out _ _ (fun he => absurd he (by decide)) (fun _ => ?_)
              clear hK K
              try simp only [Act.put, List.setIfInBounds_toArray, List.set_cons_zero, List.set_cons_succ]
              refine wpAnyT_take (i := 23) (v := ?_) rfl (by kernel_rfl) (by kernel_rfl) (by kernel_rfl) (by kernel_rfl) (fun _ _ _ h => h) (fun he => absurd he (by decide)) (Or.inl ⟨by rfl, ?_⟩) ?_
              rotate_left
              · (intro W1 _; go_simp <;> with_reducible rfl)
              try simp only [Act.put, List.setIfInBounds_toArray, List.set_cons_zero, List.set_cons_succ]
              refine wpAnyT_take (i := 24) (v := ?_) rfl (by kernel_rfl) (by kernel_rfl) (by kernel_rfl) (by kernel_rfl) (fun _ _ _ h => h) (fun he => absurd he (by decide)) (Or.inl ⟨by rfl, ?_⟩) ?_
              rotate_left
              · (intro W1 _; go_simp <;> with_reducible rfl)
              try simp only [Act.put, List.setIfInBounds_toArray, List.set_cons_zero, List.set_cons_succ]
              refine wpAnyT_take (i := 25) (v := ?_) rfl (by kernel_rfl) (by kernel_rfl) (by kernel_rfl) (by kernel_rfl) (fun _ _ _ h => h) (fun he => absurd he (by decide)) (Or.inl ⟨by rfl, ?_⟩) ?_
              rotate_left
              · (intro W1 _; go_simp <;> with_reducible rfl)
              try simp only [Act.put, List.setIfInBounds_toArray, List.set_cons_zero, List.set_cons_succ]
              refine wpAnyT_ready (rs := [26]) (by kernel_rfl) (by simp) ?_
              refine AllReadyT.cons rfl (fun K hK => ?_) AllReadyT.nil
              go_simp
              refine hK.out _ _ (fun he => absurd he (by decide)) (fun _ => ?_)
              clear hK K
              try simp only [Act.put, List.setIfInBounds_toArray, List.set_cons_zero, List.set_cons_succ]
              refine wpAnyT_done (by kernel_rfl) ?_ _
              have RN5 := ((RN4.out.store 0 (.slice (some ⟨g1, 0, none⟩) ((U (Ends ws bs k)).length + 1) cap1)).store 1 (.slice (some ⟨g2, 0, none⟩) ((U (Who bs k)).length + 1) cap2))
              have LN5 := ((LN4.out.set_ 0 (.slice (some ⟨g1, 0, none⟩) ((U (Ends ws bs k)).length + 1) cap1)).set_ 1 (.slice (some ⟨g2, 0, none⟩) ((U (Who bs k)).length + 1) cap2))
              simp only [List.length_map] at RN5 LN5
              have RN6 := Shut.mk RN5
              have LN6 := Shut.mk LN5
              clear RN5 LN5 RN4 LN4 RN3 LN3 RN2 LN2 dE dW fE fW hwk
              go_wp2_with fail
              have hkn := HKN.out
              go_roundw
              case rel => exact ⟨k + 1, by omega, by go_num, _, _, _, LN6.out, by rw [hE1.out.1, hE1.out.2, hS1.out]; exact RN6.out, PRF.out⟩
              case measure => simp [intOf]; omega
            refine AllReadyT.cons rfl (fun K hK => ?_) AllReadyT.nil
            go_simp
            refine hK.out _ _ (fun _ => ⟨((LN2.out.alloc _).alloc _).cell 0, ((LN2.out.alloc _).alloc _).cell 1⟩) (fun hS => ?_)
            clear hK K
            try simp only [Act.put, List.setIfInBounds_toArray, List.set_cons_zero, List.set_cons_succ]
            have hS := hS (by kernel_rfl)
            refine wpAnyT_ready (rs := [9]) (by kernel_rfl) (by simp) ?_
            refine AllReadyT.cons rfl (fun K hK => ?_) AllReadyT.nil
            refine step_push 23 36 (.int .u64 0) 8 Try.underlying23 info_u64 rfl (by decide) rfl (.tmp 76) (.tmp 78) rfl _ ve (U (Ends ws bs k)) rfl (((RN2.out.alloc _).alloc _).drew).1.1 (W.heap.size) (.int .u64 P') rfl (heap_alloc_old1 W _ _) rfl HEn.out.1 ?_
            intro g1 cap1 w1 hr1 hg1 hor1 hlt1
            have RN3 : Shut (R3 w (w.heap.size + 1) (.slice (some ⟨g1, 0, none⟩) ((U (Ends ws bs k)).length + 1) cap1) vw (.slice (some ⟨g, 0, none⟩) (k + 1 + 1) cap) (Ends ws bs k ++ [P']) (Who bs k) (Sums ws bs k ++ [P']) w1) := ⟨(((RN2.out.alloc _).alloc _).drew).push_e hr1 hg1 hor1⟩
            have LN3 : Shut (Laid w1 (w.heap.size + 1) 49 #[ve, vw, (.slice (some ⟨g, 0, none⟩) (k + 1 + 1) cap), .nilFunc]) := ⟨Laid.grown (W := ((World.alloc (World.alloc W (.cells #[.int .u64 P'] 36)) (.cells #[.int .u64 k] 36))).drew) (((LN2.out.alloc _).alloc _)) hg1 RN2.out.2.1.1⟩
            have GK : Shut (w1.heap[W.heap.size + 1]? = some (.cells #[.int .u64 k] 36 (0, 0))) := ⟨grown_heap (W := ((World.alloc (World.alloc W (.cells #[.int .u64 P'] 36)) (.cells #[.int .u64 k] 36))).drew) hg1 (heap_alloc_new1 W _ _) (fun e => by have := RN2.out.1.1.lt _ e; omega)⟩
            clear hr1 hg1 hor1 hlt1
            refine hK.out _ _ (fun _ => ⟨LN3.out.cell 0, LN3.out.cell 1⟩) (fun hS => ?_)
            clear hK K
            try simp only [Act.put, List.setIfInBounds_toArray, List.set_cons_zero, List.set_cons_succ]
            have hS := hS (by kernel_rfl)
            refine wpAnyT_ready (rs := [18]) (by kernel_rfl) (by simp) ?_
            refine AllReadyT.cons rfl (fun K hK => ?_) AllReadyT.nil
            refine step_push 23 36 (.int .u64 0) 8 Try.underlying23 info_u64 rfl (by decide) rfl (.tmp 84) (.tmp 87) rfl _ vw (U (Who bs k)) rfl RN3.out.1.2.1 (W.heap.size + 1) (.int .u64 k) rfl (GK.out) rfl HEn.out.2 ?_
            intro g2 cap2 w2 hr2 hg2 hor2 hlt2
            have RN4 : Shut (R3 w (w.heap.size + 1) (.slice (some ⟨g1, 0, none⟩) ((U (Ends ws bs k)).length + 1) cap1) (.slice (some ⟨g2, 0, none⟩) ((U (Who bs k)).length + 1) cap2) (.slice (some ⟨g, 0, none⟩) (k + 1 + 1) cap) (Ends ws bs k ++ [P']) (Who bs k ++ [k]) (Sums ws bs k ++ [P']) w2) := ⟨RN3.out.push_w hr2 hg2 hor2⟩
            have LN4 : Shut (Laid w2 (w.heap.size + 1) 49 #[ve, vw, (.slice (some ⟨g, 0, none⟩) (k + 1 + 1) cap), .nilFunc]) := ⟨LN3.out.grown hg2 RN3.out.2.1.2.1⟩
            clear hr2 hg2 hor2 hlt2
            refine hK.out _ _ (fun _ => ⟨LN4.out.cell 0, LN4.out.cell 1⟩) (fun hS => ?_)
            clear hK K
            try simp only [Act.put, List.setIfInBounds_toArray, List.set_cons_zero, List.set_cons_succ]
            have hS := hS (by kernel_rfl)
            refine wpAnyT_take (i := 19) (v := ?_) rfl (by kernel_rfl) (by kernel_rfl) (by kernel_rfl) (by kernel_rfl) (fun _ _ _ h => h) (fun _ => hS) (Or.inl ⟨by rfl, ?_⟩) ?_
            rotate_left
            · (intro W1 _; go_simp <;> with_reducible rfl)
            try simp only [Act.put, List.setIfInBounds_toArray, List.set_cons_zero, List.set_cons_succ]
            refine wpAnyT_take (i := 20) (v := ?_) rfl (by kernel_rfl) (by kernel_rfl) (by kernel_rfl) (by kernel_rfl) (fun _ _ _ h => h) (fun _ => hS) (Or.inl ⟨by rfl, ?_⟩) ?_
            rotate_left
            · (intro W1 _; go_simp <;> with_reducible rfl)
            try simp only [Act.put, List.setIfInBounds_toArray, List.set_cons_zero, List.set_cons_succ]
            refine wpAnyT_take (i := 21) (v := ?_) rfl (by kernel_rfl) (by kernel_rfl) (by kernel_rfl) (by kernel_rfl) (fun _ _ _ h => h) (fun _ => hS) (Or.inl ⟨by rfl, ?_⟩) ?_
            rotate_left
            · (intro W1 _; go_simp <;> with_reducible rfl)
            try simp only [Act.put, List.setIfInBounds_toArray, List.set_cons_zero, List.set_cons_succ]
            have dE := LN4.out.cell 0
            have dW := LN4.out.cell 1
            have fE := LN4.out.frozen 0
            have fW := LN4.out.frozen 1
            simp at dE dW
            refine wpAnyT_ready (rs := [22]) (by kernel_rfl) (by simp) ?_
            refine AllReadyT.cons rfl (fun K hK => ?_) AllReadyT.nil
            go_simp
            refine hK.out _ _ (fun he => absurd he (by decide)) (fun _ => ?_)
            clear hK K
            try simp only [Act.put, List.setIfInBounds_toArray, List.set_cons_zero, List.set_cons_succ]
            refine wpAnyT_take (i := 23) (v := ?_) rfl (by kernel_rfl) (by kernel_rfl) (by kernel_rfl) (by kernel_rfl) (fun _ _ _ h => h) (fun he => absurd he (by decide)) (Or.inl ⟨by rfl, ?_⟩) ?_
            rotate_left
            · (intro W1 _; go_simp <;> with_reducible rfl)
            try simp only [Act.put, List.setIfInBounds_toArray, List.set_cons_zero, List.set_cons_succ]
            refine wpAnyT_take (i := 24) (v := ?_) rfl (by kernel_rfl) (by kernel_rfl) (by kernel_rfl) (by kernel_rfl) (fun _ _ _ h => h) (fun he => absurd he (by decide)) (Or.inl ⟨by rfl, ?_⟩) ?_
            rotate_left
            · (intro W1 _; go_simp <;> with_reducible rfl)
            try simp only [Act.put, List.setIfInBounds_toArray, List.set_cons_zero, List.set_cons_succ]
            refine wpAnyT_take (i := 25) (v := ?_) rfl (by kernel_rfl) (by kernel_rfl) (by kernel_rfl) (by kernel_rfl) (fun _ _ _ h => h) (fun he => absurd he (by decide)) (Or.inl ⟨by rfl, ?_⟩) ?_
            rotate_left
            · (intro W1 _; go_simp <;> with_reducible rfl)
            try simp only [Act.put, List.setIfInBounds_toArray, List.set_cons_zero, List.set_cons_succ]
            refine wpAnyT_ready (rs := [26]) (by kernel_rfl) (by simp) ?_
            refine AllReadyT.cons rfl (fun K hK => ?_) AllReadyT.nil
            go_simp
            refine hK.out _ _ (fun he => absurd he (by decide)) (fun _ => ?_)
            clear hK K
            try simp only [Act.put, List.setIfInBounds_toArray, List.set_cons_zero, List.set_cons_succ]
            refine wpAnyT_done (by kernel_rfl) ?_ _
            have RN5 := ((RN4.out.store 0 (.slice (some ⟨g1, 0, none⟩) ((U (Ends ws bs k)).length + 1) cap1)).store 1 (.slice (some ⟨g2, 0, none⟩) ((U (Who bs k)).length + 1) cap2))
            have LN5 := ((LN4.out.set_ 0 (.slice (some ⟨g1, 0, none⟩) ((U (Ends ws bs k)).length + 1) cap1)).set_ 1 (.slice (some ⟨g2, 0, none⟩) ((U (Who bs k)).length + 1) cap2))
            simp only [List.length_map] at RN5 LN5
            have RN6 := Shut.mk RN5
            have LN6 := Shut.mk LN5
            clear RN5 LN5 RN4 LN4 RN3 LN3 RN2 LN2 dE dW fE fW hwk
            go_wp2_with fail
            have hkn := HKN.out
            go_roundw
            case rel => exact ⟨k + 1, by omega, by go_num, _, _, _, LN6.out, by rw [hE1.out.1, hE1.out.2, hS1.out]; exact RN6.out, PRF.out⟩
            case measure => simp [intOf]; omega
          refine AllReadyT.cons rfl (fun K hK => ?_) AllReadyT.nil
          go_simp
          refine hK.out _ _ (fun _ => ⟨(LN2.out.alloc _).cell 0, (LN2.out.alloc _).cell 1⟩) (fun hS => ?_)
          clear hK K
          try simp only [Act.put, List.setIfInBounds_toArray, List.set_cons_zero, List.set_cons_succ]
          have hS := hS (by kernel_rfl)
          refine wpAnyT_ready (rs := [8]) (by kernel_rfl) (by simp) ?_
          refine AllReadyT.cons rfl (fun K hK => ?_) AllReadyT.nil
          go_simp
          refine hK.out _ _ (fun _ => ⟨((LN2.out.alloc _).alloc _).cell 0, ((LN2.out.alloc _).alloc _).cell 1⟩) (fun hS => ?_)
          clear hK K
          try simp only [Act.put, List.setIfInBounds_toArray, List.set_cons_zero, List.set_cons_succ]
          have hS := hS (by kernel_rfl)
          refine wpAnyT_ready (rs := [9]) (by kernel_rfl) (by simp) ?_
          refine AllReadyT.cons rfl (fun K hK => ?_) AllReadyT.nil
          refine step_push 23 36 (.int .u64 0) 8 Try.underlying23 info_u64 rfl (by decide) rfl (.tmp 76) (.tmp 78) rfl _ ve (U (Ends ws bs k)) rfl (((RN2.out.alloc _).alloc _).drew).1.1 (W.heap.size + 1) (.int .u64 P') rfl (heap_alloc_new1 W _ _) rfl HEn.out.1 ?_
          intro g1 cap1 w1 hr1 hg1 hor1 hlt1
          have RN3 : Shut (R3 w (w.heap.size + 1) (.slice (some ⟨g1, 0, none⟩) ((U (Ends ws bs k)).length + 1) cap1) vw (.slice (some ⟨g, 0, none⟩) (k + 1 + 1) cap) (Ends ws bs k ++ [P']) (Who bs k) (Sums ws bs k ++ [P']) w1) := ⟨(((RN2.out.alloc _).alloc _).drew).push_e hr1 hg1 hor1⟩
          have LN3 : Shut (Laid w1 (w.heap.size + 1) 49 #[ve, vw, (.slice (some ⟨g, 0, none⟩) (k + 1 + 1) cap), .nilFunc]) := ⟨Laid.grown (W := ((World.alloc (World.alloc W (.cells #[.int .u64 k] 36)) (.cells #[.int .u64 P'] 36))).drew) (((LN2.out.alloc _).alloc _)) hg1 RN2.out.2.1.1⟩
          have GK : Shut (w1.heap[W.heap.size]? = some (.cells #[.int .u64 k] 36 (0, 0))) := ⟨grown_heap (W := ((World.alloc (World.alloc W (.cells #[.int .u64 k] 36)) (.cells #[.int .u64 P'] 36))).drew) hg1 (heap_alloc_old1 W _ _) (fun e => by have := RN2.out.1.1.lt _ e; omega)⟩
          clear hr1 hg1 hor1 hlt1
          refine hK.out _ _ (fun _ => ⟨LN3.out.cell 0, LN3.out.cell 1⟩) (fun hS => ?_)
          clear hK K
          try simp only [Act.put, List.setIfInBounds_toArray, List.set_cons_zero, List.set_cons_succ]
          have hS := hS (by kernel_rfl)
          refine wpAnyT_ready (rs := [18]) (by kernel_rfl) (by simp) ?_
          refine AllReadyT.cons rfl (fun K hK => ?_) AllReadyT.nil
          refine step_push 23 36 (.int .u64 0) 8 Try.underlying23 info_u64 rfl (by decide) rfl (.tmp 84) (.tmp 87) rfl _ vw (U (Who bs k)) rfl RN3.out.1.2.1 (W.heap.size) (.int .u64 k) rfl (GK.out) rfl HEn.out.2 ?_
          intro g2 cap2 w2 hr2 hg2 hor2 hlt2
          have RN4 : Shut (R3 w (w.heap.size + 1) (.slice (some ⟨g1, 0, none⟩) ((U (Ends ws bs k)).length + 1) cap1) (.slice (some ⟨g2, 0, none⟩) ((U (Who bs k)).length + 1) cap2) (.slice (some ⟨g, 0, none⟩) (k + 1 + 1) cap) (Ends ws bs k ++ [P']) (Who bs k ++ [k]) (Sums ws bs k ++ [P']) w2) := ⟨RN3.out.push_w hr2 hg2 hor2⟩
          have LN4 : Shut (Laid w2 (w.heap.size + 1) 49 #[ve, vw, (.slice (some ⟨g, 0, none⟩) (k + 1 + 1) cap), .nilFunc]) := ⟨LN3.out.grown hg2 RN3.out.2.1.2.1⟩
          clear hr2 hg2 hor2 hlt2
          refine hK.out _ _ (fun _ => ⟨LN4.out.cell 0, LN4.out.cell 1⟩) (fun hS => ?_)
          clear hK K
          try simp only [Act.put, List.setIfInBounds_toArray, List.set_cons_zero, List.set_cons_succ]
          have hS := hS (by kernel_rfl)
          refine wpAnyT_take (i := 19) (v := ?_) rfl (by kernel_rfl) (by kernel_rfl) (by kernel_rfl) (by kernel_rfl) (fun _ _ _ h => h) (fun _ => hS) (Or.inl ⟨by rfl, ?_⟩) ?_
          rotate_left
          · (intro W1 _; go_simp <;> with_reducible rfl)
          try simp only [Act.put, List.setIfInBounds_toArray, List.set_cons_zero, List.set_cons_succ]
          refine wpAnyT_take (i := 20) (v := ?_) rfl (by kernel_rfl) (by kernel_rfl) (by kernel_rfl) (by kernel_rfl) (fun _ _ _ h => h) (fun _ => hS) (Or.inl ⟨by rfl, ?_⟩) ?_
          rotate_left
          · (intro W1 _; go_simp <;> with_reducible rfl)
          try simp only [Act.put, List.setIfInBounds_toArray, List.set_cons_zero, List.set_cons_succ]
          refine wpAnyT_take (i := 21) (v := ?_) rfl (by kernel_rfl) (by kernel_rfl) (by kernel_rfl) (by kernel_rfl) (fun _ _ _ h => h) (fun _ => hS) (Or.inl ⟨by rfl, ?_⟩) ?_
          rotate_left
          · (intro W1 _; go_simp <;> with_reducible rfl)
          try simp only [Act.put, List.setIfInBounds_toArray, List.set_cons_zero, List.set_cons_succ]
          have dE := LN4.out.cell 0
          have dW := LN4.out.cell 1
          have fE := LN4.out.frozen 0
          have fW := LN4.out.frozen 1
          simp at dE dW
          refine wpAnyT_ready (rs := [22]) (by kernel_rfl) (by simp) ?_
          refine AllReadyT.cons rfl (fun K hK => ?_) AllReadyT.nil
          go_simp
          refine hK.out _ _ (fun he => absurd he (by decide)) (fun _ => ?_)
          clear hK K
          try simp only [Act.put, List.setIfInBounds_toArray, List.set_cons_zero, List.set_cons_succ]
          refine wpAnyT_take (i := 23) (v := ?_) rfl (by kernel_rfl) (by kernel_rfl) (by kernel_rfl) (by kernel_rfl) (fun _ _ _ h => h) (fun he => absurd he (by decide)) (Or.inl ⟨by rfl, ?_⟩) ?_
          rotate_left
          · (intro W1 _; go_simp <;> with_reducible rfl)
          try simp only [Act.put, List.setIfInBounds_toArray, List.set_cons_zero, List.set_cons_succ]
          refine wpAnyT_take (i := 24) (v := ?_) rfl (by kernel_rfl) (by kernel_rfl) (by kernel_rfl) (by kernel_rfl) (fun _ _ _ h => h) (fun he => absurd he (by decide)) (Or.inl ⟨by rfl, ?_⟩) ?_
          rotate_left
          · (intro W1 _; go_simp <;> with_reducible rfl)
          try simp only [Act.put, List.setIfInBounds_toArray, List.set_cons_zero, List.set_cons_succ]
          refine wpAnyT_take (i := 25) (v := ?_) rfl (by kernel_rfl) (by kernel_rfl) (by kernel_rfl) (by kernel_rfl) (fun _ _ _ h => h) (fun he => absurd he (by decide)) (Or.inl ⟨by rfl, ?_⟩) ?_
          rotate_left
          · (intro W1 _; go_simp <;> with_reducible rfl)
          try simp only [Act.put, List.setIfInBounds_toArray, List.set_cons_zero, List.set_cons_succ]
          refine wpAnyT_ready (rs := [26]) (by kernel_rfl) (by simp) ?_
          refine AllReadyT.cons rfl (fun K hK => ?_) AllReadyT.nil
          go_simp
          refine hK.out _ _ (fun he => absurd he (by decide)) (fun _ => ?_)
          clear hK K
          try simp only [Act.put, List.setIfInBounds_toArray, List.set_cons_zero, List.set_cons_succ]
          refine wpAnyT_done (by kernel_rfl) ?_ _
          have RN5 := ((RN4.out.store 0 (.slice (some ⟨g1, 0, none⟩) ((U (Ends ws bs k)).length + 1) cap1)).store 1 (.slice (some ⟨g2, 0, none⟩) ((U (Who bs k)).length + 1) cap2))
          have LN5 := ((LN4.out.set_ 0 (.slice (some ⟨g1, 0, none⟩) ((U (Ends ws bs k)).length + 1) cap1)).set_ 1 (.slice (some ⟨g2, 0, none⟩) ((U (Who bs k)).length + 1) cap2))
          simp only [List.length_map] at RN5 LN5
          have RN6 := Shut.mk RN5
          have LN6 := Shut.mk LN5
          clear RN5 LN5 RN4 LN4 RN3 LN3 RN2 LN2 dE dW fE fW hwk
          go_wp2_with fail
          have hkn := HKN.out
          go_roundw
          case rel => exact ⟨k + 1, by omega, by go_num, _, _, _, LN6.out, by rw [hE1.out.1, hE1.out.2, hS1.out]; exact RN6.out, PRF.out⟩
          case measure => simp [intOf]; omega
      · have hb' : bs.getD k false = false := by simpa using hb
        rw [hb'] at cB cB0'
        have cB0 := Shut.mk cB0'
        clear cB0'
        have hP1 : Pre ws bs (k + 1) = Pre ws bs k := by rw [Pre, if_neg hb]; rfl
        have hE1 : Shut (Ends ws bs (k + 1) = Ends ws bs k ∧ Who bs (k + 1) = Who bs k) := ⟨by rw [Ends, if_neg hb], by rw [Who, if_neg hb]⟩
        have hS1 : Shut (Sums ws bs (k + 1) = Sums ws bs k ++ [Pre ws bs k]) := ⟨by rw [Sums, hP1]⟩
        have PR := Shut.mk (And.intro hP1 hpre)
        have ADD : ∀ w, (callFunc 19 #[.int .u64 (Pre ws bs k : Nat), .int .u64 0, .int .u64 0]).run Try.prog w = .ok (.value (.tuple #[.int .u64 (Pre ws bs k : Nat), .int .u64 0])) w := fun w => add64_fits (Pre ws bs k) 0 _ rfl hpre w
        generalize Pre ws bs k = P at *
        clear hb hb' hP1 hpre
        go_wp2_with (first
          | simp only [ADD]
          | refine wpList_push 23 36 (.int .u64 0) 8 Try.underlying23 info_u64 rfl (by decide) rfl (.tmp 60) (.tmp 62) rfl _ (.slice (some ⟨gs, 0, none⟩) (k + 1) cs) (U (Sums ws bs k)) rfl (RS.out.alloc _) wr.heap.size (.int .u64 P) rfl (heap_alloc_new wr _) rfl (by rw [LS]; omega) ?_)
        intro g cap w' hr' hg' hor hlt
        rw [LS] at hr' ⊢
        have RN : Shut (R3 w (w.heap.size + 1) ve vw (.slice (some ⟨g, 0, none⟩) (k + 1 + 1) cap) (Ends ws bs k) (Who bs k) (Sums ws bs k ++ [P]) w') := ⟨(RR.out.alloc _).push_s hr' hg' hor⟩
        have LN : Shut (Laid w' (w.heap.size + 1) 49 #[ve, vw, .slice (some ⟨gs, 0, none⟩) (k + 1) cs, .nilFunc]) := ⟨(L3.out.alloc _).grown hg' RR.out.2.1.2.2⟩
        have d2 := LN.out.cell 2
        have e2 := LN.out.frozen 2
        simp at d2
        have RN2 : Shut (R3 w (w.heap.size + 1) ve vw (.slice (some ⟨g, 0, none⟩) (k + 1 + 1) cap) (Ends ws bs k) (Who bs k) (Sums ws bs k ++ [P]) (w'.setCell ⟨w.heap.size + 1, 2, none⟩ (.slice (some ⟨g, 0, none⟩) (k + 1 + 1) cap))) := ⟨RN.out.store 2 _⟩
        have LN2 : Shut (Laid (w'.setCell ⟨w.heap.size + 1, 2, none⟩ (.slice (some ⟨g, 0, none⟩) (k + 1 + 1) cap)) (w.heap.size + 1) 49 #[ve, vw, .slice (some ⟨g, 0, none⟩) (k + 1 + 1) cap, .nilFunc]) := ⟨LN.out.set_ 2 _⟩
        have cB2 : (w'.setCell ⟨w.heap.size + 1, 2, none⟩ (.slice (some ⟨g, 0, none⟩) (k + 1 + 1) cap)).cell? ⟨gb, k, none⟩ = some (.bool false) := (RN2.out.2.2.2.2.1.cell (p := ⟨gb, k, none⟩) hgbl).trans cB0.out
        clear hr' hg' hor
        go_wp2_with fail
        go_roundw
        case rel => exact ⟨k + 1, by omega, by go_num, _, _, _, LN2.out, by rw [hE1.out.1, hE1.out.2, hS1.out]; exact RN2.out, by rw [PR.out.1]; exact PR.out.2⟩
        case measure => simp [intOf]; omega
    · obtain rfl : k = n := by omega
      obtain ⟨ve, vw, vs, hl, hR, hpre⟩ := hI
      have hsl := Sums_len ws bs k
      obtain ⟨gs, cs, rfl, hgs⟩ := hR.1.2.2.some_ (by rw [Sums_len]; omega)
      rw [hsl] at hl hR
      have RR := Shut.mk hR
      have LL := Shut.mk hl
      have c0 := hl.cell 0
      have c1 := hl.cell 1
      have c2 := hl.cell 2
      have c3 := hl.cell 3
      have f2 := hl.frozen 2
      have f3 := hl.frozen 3
      simp at c0 c1 c2 c3
      have hcap := hgs.cap
      rw [show (U (Sums ws bs k)).length = k + 1 by simp [hsl]] at hcap
      clear hsl hl hR hgs HW HS C
      go_wp2_with fail
      go_ret2
      exact ⟨NewIs.yes H.out.1 H.out.2.1 H3.out HN.out hpre LL.out RR.out, (RR.out.2.2.2.2.1.setCell (p := ⟨w.heap.size + 1, 2, none⟩) (by simp) _).setCell (p := ⟨w.heap.size + 1, 3, none⟩) (by simp) _⟩

end Go.Proofs.Ythchnjimhcjagaa
