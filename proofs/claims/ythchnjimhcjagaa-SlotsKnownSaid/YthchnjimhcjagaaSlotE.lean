/- Walk: New. -/
import Derived.Test.YthchnjimhcjagaaSlotD
import Derived.Laws.Externs
namespace Go.Proofs.Ythchnjimhcjagaa
set_option linter.unusedVariables false
open Go Go.RowKit

theorem add64_run (x y c : Nat) (hc : c ≤ 1) (w : World) :
    (callFunc 19 #[.int .u64 x, .int .u64 y, .int .u64 c]).run Try.prog w =
      .ok (.value (.tuple #[.int .u64 (((x + y + c) % 18446744073709551616 : Nat) : Int), .int .u64 (((x + y + c) / 18446744073709551616 : Nat) : Int)])) w := by
  rw [run_callFunc_extern (P := Try.prog) (f := 19) (fn := Try.f19) (by kernel_rfl) (by kernel_rfl) (by kernel_rfl) (by kernel_rfl) (e := add64Entry) (by kernel_rfl), run_add64 x y c (by omega) (by omega) (by omega) (by omega)]
  simp only [Result.andThen]
  congr 5 <;> omega

/-- Which error a layout meets. -/
def NewE (ws : List Nat) (bs : List Bool) : Nat :=
  if ws.length ≠ bs.length then 2 else if 65536 < ws.length then 3 else if 0 ∈ ws then 2 else if 18446744073709551616 ≤ Pre ws bs ws.length then 21 else 0

def PreFits (ws : List Nat) (bs : List Bool) (k : Nat) : Prop := Pre ws bs k < 18446744073709551616

/-- What New answers. -/
def NewIs (ws : List Nat) (bs : List Bool) (W : World) (e : Ending) : Prop :=
  (NewE ws bs ≠ 0 ∧ e = .returned (.tuple #[.pointer none, .int .i64 (NewE ws bs)])) ∨
  (NewE ws bs = 0 ∧ ∃ g, e = .returned (.tuple #[.pointer (some ⟨g, 0, none⟩), .int .i64 0]) ∧ Lay W g (Ends ws bs ws.length) (Who bs ws.length) (Sums ws bs ws.length))

theorem NewIs.no {ws : List Nat} {bs : List Bool} {W : World} {e : Ending} {k : Nat} (hk : k ≠ 0) (h : NewE ws bs = k) (he : e = .returned (.tuple #[.pointer none, .int .i64 (k : Nat)])) : NewIs ws bs W e :=
  .inl ⟨by rw [h]; exact hk, by rw [h]; exact he⟩

theorem Row.form {W : World} {t : TypeId} {v : Value} {xs : List Value} (h : Row W t v xs) : ∃ A c, v = .slice A xs.length c := by
  rcases h.cases with ⟨rfl, rfl⟩ | ⟨g, c, rfl, hg⟩
  · exact ⟨none, 0, rfl⟩
  · exact ⟨_, c, rfl⟩

theorem Row.formU {W : World} {t : TypeId} {v : Value} {ns : List Nat} (h : Row W t v (U ns)) : ∃ A c, v = .slice A ns.length c := by
  obtain ⟨A, c, rfl⟩ := h.form
  exact ⟨A, c, by simp⟩
theorem Row.formB {W : World} {t : TypeId} {v : Value} {bs : List Bool} (h : Row W t v (bs.map Value.bool)) : ∃ A c, v = .slice A bs.length c := by
  obtain ⟨A, c, rfl⟩ := h.form
  exact ⟨A, c, by simp⟩

set_option maxRecDepth 100000 in
set_option maxHeartbeats 1000000 in
theorem new_no (vw vs : Value) (ws : List Nat) (bs : List Bool) (w : World) (hw : Row w 36 vw (U ws)) (hs : Row w 4 vs (bs.map Value.bool)) (h : ws.length ≠ bs.length ∨ 65536 < ws.length ∨ 0 ∈ ws) :
    Calls Try.prog 8 #[vw, vs] w fun e w' => NewIs ws bs w' e ∧ Below w.heap.size w w' := by
  obtain ⟨A, c, rfl⟩ := hw.formU
  obtain ⟨A', c', rfl⟩ := hs.formB
  have B0 := Below.refl w.heap.size w
  by_cases h1 : ws.length ≠ bs.length
  · have E := Shut.mk (show NewE ws bs = 2 by unfold NewE; rw [if_pos h1])
    have e1 : ((ws.length : Int) == (bs.length : Int)) = false := by simp; omega
    generalize ws.length = n at *
    generalize bs.length = m at *
    clear hw hs h h1
    go_enter Try.func8, Try.ntmps8
    go_wp2_with fail
    go_ret2
    exact ⟨NewIs.no (by decide) E.out rfl, B0⟩
  · have e0 : bs.length = ws.length := by omega
    rw [e0]
    by_cases h2 : 65536 < ws.length
    · have E := Shut.mk (show NewE ws bs = 3 by unfold NewE; rw [if_neg h1, if_pos h2])
      have h3 : (ws.length : Int) > 65536 := by omega
      clear hw hs h h1 e0
      generalize ws.length = n at *
      go_enter Try.func8, Try.ntmps8
      go_wp2_with fail
      go_ret2
      exact ⟨NewIs.no (by decide) E.out rfl, B0⟩
    · have h4 : 0 ∈ ws := by
        rcases h with h | h | h
        · exact absurd h h1
        · exact absurd h h2
        · exact h
      have E := Shut.mk (show NewE ws bs = 2 by unfold NewE; rw [if_neg h1, if_neg h2, if_pos h4])
      have h3 : ¬ (ws.length : Int) > 65536 := by omega
      have C : Shut (Calls Try.prog 18 #[.slice A ws.length c, .int .u64 0] w fun e w' => e = .returned (.bool true) ∧ w = w') := ⟨decide_eq_true h4 ▸ contains_any _ ws 0 w hw (by omega)⟩
      clear hw hs h h1 e0 h4
      generalize ws.length = n at *
      go_enter Try.func8, Try.ntmps8
      go_wp2_with fail
      refine (C.out).mono ?_
      rintro e w1 ⟨rfl, rfl⟩
      go_wp2_with fail
      go_ret2
      exact ⟨NewIs.no (by decide) E.out rfl, B0⟩

end Go.Proofs.Ythchnjimhcjagaa
