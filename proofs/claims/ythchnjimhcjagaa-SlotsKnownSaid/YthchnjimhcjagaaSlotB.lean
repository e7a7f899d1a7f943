/- Walks: the row's search. -/
import Derived.Test.YthchnjimhcjagaaSlotA
namespace Go.Proofs.Ythchnjimhcjagaa
set_option linter.unusedVariables false
open Go.RowKit

theorem below3 {w a b : World} (h1 : Below w.heap.size w a) (h2 : Below a.heap.size a b) : Below w.heap.size w b := h1.trans (h2.mono h1.size)

theorem below_drewN {B : Nat} {w a : World} (h : Below B w a) (n : Nat) : Below B w (a.drewN n) := h.trans ⟨rfl, rfl, rfl, Nat.le_refl _, fun _ _ => rfl⟩

/-- The first of ascending ends that is above a number. -/
def Above (ns : List Nat) (x p : Nat) : Prop := p ≤ ns.length ∧ (∀ j, j < p → ns.getD j 0 ≤ x) ∧ (∀ j, p ≤ j → j < ns.length → x < ns.getD j 0)

theorem above_of (ns : List Nat) (x p : Nat) (f : Bool) (hs : ∀ i j, i < j → j < ns.length → ns.getD i 0 < ns.getD j 0) (h : Hit ns x p f) : Above ns x (if f then p + 1 else p) := by
  obtain ⟨⟨h1, h2, h3⟩, h4⟩ := h
  cases f
  · show Above ns x p
    have hn : ¬ (p < ns.length ∧ ns.getD p 0 = x) := fun e => by have := h4.2 e; simp at this
    refine ⟨h1, fun j hj => Nat.le_of_lt (h2 j hj), fun j hj hl => ?_⟩
    have a := h3 j hj hl
    rcases Nat.lt_or_ge x (ns.getD j 0) with h | h
    · exact h
    · have e : ns.getD j 0 = x := by omega
      rcases Nat.eq_or_lt_of_le hj with rfl | hlt
      · exact absurd ⟨hl, e⟩ hn
      · have := hs p j hlt hl
        have := h3 p (Nat.le_refl _) (by omega)
        omega
  · show Above ns x (p + 1)
    obtain ⟨a, b⟩ := h4.1 rfl
    refine ⟨a, fun j hj => ?_, fun j hj hl => ?_⟩
    · rcases Nat.eq_or_lt_of_le (Nat.le_of_lt_succ hj) with rfl | hlt
      · omega
      · exact Nat.le_of_lt (h2 j hlt)
    · have hj' : p + 1 ≤ j := hj
      have := hs p j (by omega) hl
      omega

def Found (ns : List Nat) (x : Nat) (e : Ending) : Prop := ∃ p : Nat, e = .returned (.tuple #[.int .i64 p, .bool (decide (p < ns.length))]) ∧ Above ns x p

set_option maxRecDepth 100000 in
set_option maxHeartbeats 1000000 in
theorem search_any (ve vw : Value) (ns : List Nat) (x : Nat) (w : World) (hr : Row w 36 ve (U ns)) (hn : ns.length < 1000000) (hs : ∀ i j, i < j → j < ns.length → ns.getD i 0 < ns.getD j 0) :
    Calls Try.prog 20 #[.agg #[ve, vw], .int .u64 x] w fun e w' => Found ns x e ∧ Below w.heap.size w w' := by
  have A1 := Shut.mk ((Below.refl w.heap.size w).alloc (Nat.le_refl _) (.cells #[ve, vw] 46))
  have B := Shut.mk (binary_any ve ns x _ (hr.alloc (.cells #[ve, vw] 46)) hn (fun i j h hj => by
    rcases Nat.eq_or_lt_of_le h with rfl | h
    · exact Nat.le_refl _
    · exact Nat.le_of_lt (hs i j h hj)))
  have HA := Shut.mk (fun p f => above_of ns x p f hs)
  have hc : ∃ A c, ve = .slice A ns.length c := by
    rcases hr.cases with ⟨rfl, h0⟩ | ⟨g, c, rfl, hg⟩
    · have hns : ns = [] := by simpa using h0
      subst hns
      exact ⟨none, 0, rfl⟩
    · exact ⟨some ⟨g, 0, none⟩, c, by simp⟩
  obtain ⟨A, c, rfl⟩ := hc
  clear hr hs
  go_enter Try.func20, Try.ntmps20
  go_wp2_with fail
  refine (B.out).mono ?_
  rintro e w1 ⟨⟨p, f, rfl, hf⟩, rfl⟩
  have HF := Shut.mk (HA.out p f hf)
  have HB : p < ns.length + 1 := by have := hf.1.1; omega
  clear hf
  have hF : Shut (∀ q, Above ns x q → Found ns x (.returned (.tuple #[.int .i64 (q : Nat), .bool (decide (q < ns.length))]))) := ⟨fun q hq => ⟨q, rfl, hq⟩⟩
  generalize ns.length = n at *
  cases f
  · go_wp2_with fail
    go_quiet (fail)
    go_wp2_with fail
    go_ret2
    exact ⟨hF.out p HF.out, below_drewN A1.out nq⟩
  · go_wp2_with fail
    go_quiet (fail)
    go_wp2_with fail
    go_ret2
    refine ⟨(congrArg (Found ns x) ?_).mp (hF.out (p + 1) HF.out), below_drewN A1.out nq⟩
    rw [show decide (p + 1 < n) = decide ((p : Int) + 1 < (n : Int)) from decide_eq_decide.2 (by omega)]
    rfl

end Go.Proofs.Ythchnjimhcjagaa
