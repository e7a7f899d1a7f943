/- Walks: the reference's layout. -/
import Derived.Test.YthchnjimhcjagaaSlotE
namespace Go.Proofs.Ythchnjimhcjagaa
set_option linter.unusedVariables false
open Go Go.RowKit

theorem Row.there {W : World} {t : TypeId} {v : Value} {xs : List Value} (h : Row W t v xs) (h0 : 0 < xs.length) : ∃ g c, v = .slice (some ⟨g, 0, none⟩) xs.length c ∧ RowAt W t g c xs := by
  rcases h.cases with ⟨rfl, rfl⟩ | ⟨g, c, rfl, hg⟩
  · cases h0
  · exact ⟨g, c, rfl, hg⟩

/-- A number of a row of which the slice is known but for the address. -/
theorem Row.u64At {W : World} {t : TypeId} {A : Option Addr} {n c : Nat} {ns : List Nat} (h : Row W t (.slice A n c) (U ns)) {k : Nat} (hk : k < ns.length) : ∃ g, A = some ⟨g, 0, none⟩ ∧ g < W.heap.size ∧ W.cell? ⟨g, k, none⟩ = some (.int .u64 (ns.getD k 0 : Nat)) := by
  obtain ⟨g, c', e, hg⟩ := h.there (by simp; omega)
  injection e with e
  exact ⟨g, e, hg.lt, hg.u64 hk⟩

theorem Row.boolAt {W : World} {t : TypeId} {A : Option Addr} {n c : Nat} {bs : List Bool} (h : Row W t (.slice A n c) (bs.map Value.bool)) {k : Nat} (hk : k < bs.length) : ∃ g, A = some ⟨g, 0, none⟩ ∧ g < W.heap.size ∧ W.cell? ⟨g, k, none⟩ = some (.bool (bs.getD k false)) := by
  obtain ⟨g, c', e, hg⟩ := h.there (by simp; omega)
  injection e with e
  exact ⟨g, e, hg.lt, hg.bool hk⟩

/-- What the reference's New answers. -/
def RNewIs (ws : List Nat) (bs : List Bool) (vw vs : Value) (W : World) (e : Ending) : Prop :=
  (NewE ws bs ≠ 0 ∧ e = .returned (.tuple #[.pointer none, .int .i64 (NewE ws bs)])) ∨
  (NewE ws bs = 0 ∧ ∃ g, e = .returned (.tuple #[.pointer (some ⟨g, 0, none⟩), .int .i64 0]) ∧ Laid W g 53 #[vw, vs])

theorem RNewIs.no {ws : List Nat} {bs : List Bool} {vw vs : Value} {W : World} {e : Ending} {k : Nat} (hk : k ≠ 0) (h : NewE ws bs = k) (he : e = .returned (.tuple #[.pointer none, .int .i64 (k : Nat)])) : RNewIs ws bs vw vs W e :=
  .inl ⟨by rw [h]; exact hk, by rw [h]; exact he⟩

theorem RNewIs.yes {ws : List Nat} {bs : List Bool} {vw vs : Value} {W : World} (h : NewE ws bs = 0) : RNewIs ws bs vw vs (W.alloc (.cells #[vw, vs] 53)) (.returned (.tuple #[.pointer (some ⟨W.heap.size, 0, none⟩), .int .i64 0])) :=
  .inr ⟨h, _, rfl, Laid.new _ _ _⟩

theorem wrap_fits (x y s : Nat) (h : x + y = s) (hs : s < 18446744073709551616) : IntKind.u64.wrap ((x : Int) + (y : Int)) = (s : Int) := by rw [IntKind.wrap_u64]; omega
theorem wrap_over (x y : Nat) (h : 18446744073709551616 ≤ x + y) (hx : x < 18446744073709551616) (hy : y < 18446744073709551616) : ∃ s : Nat, IntKind.u64.wrap ((x : Int) + (y : Int)) = (s : Int) ∧ s < x := ⟨x + y - 18446744073709551616, by rw [IntKind.wrap_u64]; omega, by omega⟩
theorem wrap_sub (x y s : Nat) (h : x = y + s) (hx : x < 18446744073709551616) : IntKind.u64.wrap ((x : Int) - (y : Int)) = (s : Int) := by rw [IntKind.wrap_u64]; omega

set_option maxRecDepth 100000 in
set_option maxHeartbeats 1000000 in
theorem rnew_any (vw vs : Value) (ws : List Nat) (bs : List Bool) (w : World) (hw : Row w 36 vw (U ws)) (hs : Row w 4 vs (bs.map Value.bool)) (hn : ws.length < 1000000) (hu : ∀ x ∈ ws, x < 18446744073709551616) :
    Calls Try.prog 9 #[vw, vs] w fun e w' => RNewIs ws bs vw vs w' e ∧ Below w.heap.size w w' := by
  obtain ⟨A, c, rfl⟩ := hw.formU
  obtain ⟨A', c', rfl⟩ := hs.formB
  have B0 := Below.refl w.heap.size w
  by_cases h1 : ws.length ≠ bs.length
  · have E := Shut.mk (show NewE ws bs = 2 by unfold NewE; rw [if_pos h1])
    have e1 : ((ws.length : Int) == (bs.length : Int)) = false := by simp; omega
    clear hw hs hu
    generalize ws.length = n at *
    generalize bs.length = m at *
    clear h1
    go_enter Try.func9, Try.ntmps9
    go_wp2_with fail
    go_ret2
    exact ⟨RNewIs.no (by decide) E.out rfl, B0⟩
  · have e0 : bs.length = ws.length := by omega
    rw [e0] at hs ⊢
    by_cases h2 : 65536 < ws.length
    · have E := Shut.mk (show NewE ws bs = 3 by unfold NewE; rw [if_neg h1, if_pos h2])
      have h3 : (ws.length : Int) > 65536 := by omega
      clear hw hs hu h1 e0
      generalize ws.length = n at *
      go_enter Try.func9, Try.ntmps9
      go_wp2_with fail
      go_ret2
      exact ⟨RNewIs.no (by decide) E.out rfl, B0⟩
    · have h3 : ¬ (ws.length : Int) > 65536 := by omega
      have HW := Shut.mk (fun k (hk : k < ws.length) => hw.u64At hk)
      have HS := Shut.mk (fun k (hk : k < ws.length) => hs.boolAt (k := k) (by omega))
      have HM := Shut.mk (fun k (hk : k < ws.length) => hu _ (getD_mem ws k hk))
      have E0 : Shut (∀ k, k < ws.length → ws.getD k 0 = 0 → NewE ws bs = 2) := ⟨fun k hk h => by
        unfold NewE
        rw [if_neg h1, if_neg h2, if_pos (by rw [← h]; exact getD_mem ws k hk)]⟩
      have E1 : Shut ((∀ j, j < ws.length → ws.getD j 0 ≠ 0) → ∀ k, k ≤ ws.length → 18446744073709551616 ≤ Pre ws bs k → NewE ws bs = 21) := ⟨fun h k hk hp => by
        have h5 := Pre_rises ws bs k ws.length hk
        unfold NewE
        rw [if_neg h1, if_neg h2, if_neg (fun h0 => by obtain ⟨j, hj, e⟩ := mem_getD ws 0 h0; exact h j hj e), if_pos (by omega)]⟩
      have E2 : Shut ((∀ j, j < ws.length → ws.getD j 0 ≠ 0) → Pre ws bs ws.length < 18446744073709551616 → NewE ws bs = 0) := ⟨fun h hp => by
        unfold NewE
        rw [if_neg h1, if_neg h2, if_neg (fun h0 => by obtain ⟨j, hj, e⟩ := mem_getD ws 0 h0; exact h j hj e), if_neg (by omega)]⟩
      clear hw hs hu h1 e0 h2
      generalize ws.length = n at *
      go_enter Try.func9, Try.ntmps9
      go_wp2_with fail
      go_loop [6] (fun i => ∃ k : Nat, k ≤ n ∧ i = .int .i64 k ∧ ∀ j, j < k → ws.getD j 0 ≠ 0) (fun i => n - (intOf i).toNat)
      case atStart => exact ⟨0, by omega, rfl, fun j hj => by omega⟩
      case round =>
        obtain ⟨k, hk, rfl, hj⟩ := hrel
        have HJ := Shut.mk hj
        clear hj
        by_cases hkn : k < n
        · have hkn2 : (k : Int) < (n : Int) := by omega
          obtain ⟨g, rfl, _, ck⟩ := HW.out k hkn
          by_cases hx : ws.getD k 0 = 0
          · have E := Shut.mk (E0.out k hkn hx)
            rw [hx] at ck
            clear hx
            go_wp2_with fail
            go_ret2
            exact ⟨RNewIs.no (by decide) E.out rfl, B0⟩
          · have e1 : ((ws.getD k 0 : Nat) : Int) ≠ 0 := by omega
            have e2 : (((ws.getD k 0 : Nat) : Int) == 0) = false := by simpa using e1
            have HX := Shut.mk hx
            generalize hy : ws.getD k 0 = y at *
            have HY := Shut.mk hy
            clear hy hx e1
            go_wp2_with fail
            go_round
            case rel => exact ⟨k + 1, by omega, by go_num, fun j hj => by
              by_cases e : j = k
              · rw [e, HY.out]; exact HX.out
              · exact HJ.out j (by omega)⟩
            case measure => simp [intOf]; omega
        · obtain rfl : k = n := by omega
          have E1' := Shut.mk (E1.out HJ.out)
          have E2' := Shut.mk (E2.out HJ.out)
          clear hkn
          go_wp2_with fail
          go_loop [7, 8] (fun s i => ∃ j : Nat, j ≤ k ∧ i = .int .i64 j ∧ s = .int .u64 (Pre ws bs j : Nat) ∧ PreFits ws bs j) (fun _ i => k - (intOf i).toNat)
          case atStart => exact ⟨0, by omega, rfl, rfl, by simp [PreFits, Pre]⟩
          case round =>
            obtain ⟨j, hj, rfl, rfl, hf⟩ := hrel
            have HF := Shut.mk hf
            clear hf
            by_cases hjk : j < k
            · have hkn2 : (j : Int) < (k : Int) := by omega
              obtain ⟨g, rfl, _, ck⟩ := HW.out j hjk
              obtain ⟨g', rfl, _, cb⟩ := HS.out j hjk
              have hP0 := HF.out
              unfold PreFits at hP0
              have hx := HM.out j hjk
              by_cases hb : bs.getD j false = true
              · have hP1 : Pre ws bs (j + 1) = Pre ws bs j + ws.getD j 0 := by rw [Pre, if_pos hb]
                rw [hb] at cb
                by_cases hov : 18446744073709551616 ≤ Pre ws bs (j + 1)
                · have E := Shut.mk (E1'.out (j + 1) (by omega) hov)
                  obtain ⟨s, hs, hlt⟩ := wrap_over (Pre ws bs j) (ws.getD j 0) (by omega) hP0 hx
                  have hlt2 : (s : Int) < ((Pre ws bs j : Nat) : Int) := by omega
                  generalize Pre ws bs j = P at *
                  generalize ws.getD j 0 = x at *
                  clear hx hP0 hP1 hov hb hlt
                  go_wp2_with fail
                  go_ret2
                  exact ⟨RNewIs.no (by decide) E.out rfl, B0⟩
                · have PF : Shut (PreFits ws bs (j + 1)) := ⟨by unfold PreFits; omega⟩
                  have hs := wrap_fits (Pre ws bs j) (ws.getD j 0) (Pre ws bs (j + 1)) hP1.symm (by omega)
                  have hlt2 : ¬ (((Pre ws bs (j + 1) : Nat) : Int) < ((Pre ws bs j : Nat) : Int)) := by omega
                  have R : Shut (∃ P' : Nat, P' = Pre ws bs (j + 1)) := ⟨_, rfl⟩
                  generalize hP' : Pre ws bs (j + 1) = P' at *
                  have HP' := Shut.mk hP'
                  generalize Pre ws bs j = P at *
                  generalize ws.getD j 0 = x at *
                  clear hx hP0 hP1 hov hb hP' R
                  go_wp2_with fail
                  go_round
                  case rel => exact ⟨j + 1, by omega, by go_num, by rw [HP'.out], PF.out⟩
                  case measure => simp [intOf]; omega
              · have hb' : bs.getD j false = false := by simpa using hb
                have hP1 : Pre ws bs (j + 1) = Pre ws bs j := by rw [Pre, if_neg hb]; rfl
                have PF : Shut (PreFits ws bs (j + 1)) := ⟨by unfold PreFits; omega⟩
                rw [hb'] at cb
                have HP1 := Shut.mk hP1
                generalize Pre ws bs j = P at *
                clear hx hP0 hP1 hb hb'
                go_wp2_with fail
                go_round
                case rel => exact ⟨j + 1, by omega, by go_num, by rw [HP1.out], PF.out⟩
                case measure => simp [intOf]; omega
            · obtain rfl : j = k := by omega
              have E := Shut.mk (E2'.out HF.out)
              clear hjk
              go_wp2_with fail
              go_ret2
              exact ⟨RNewIs.yes E.out, B0.alloc (by simp) _⟩

end Go.Proofs.Ythchnjimhcjagaa
