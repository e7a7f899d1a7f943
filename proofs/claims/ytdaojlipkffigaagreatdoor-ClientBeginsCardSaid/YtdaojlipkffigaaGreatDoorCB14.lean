/- QA, RM, RN, RO, RP: merged by merge.py. -/
import Derived.Test.YtdaojlipkffigaaGreatDoorCB13
import Derived.Test.YtdaojlipkffigaaGreatDoorCB11
namespace Go.Proofs.YtdaojlipkffigaaGreatDoor
set_option linter.unusedVariables false
set_option linter.unusedSimpArgs false
set_option maxRecDepth 100000
open Go Go.RowKit
theorem GetEnd.cases {α : Type} {B gR g : Nat} {S : List UInt8} {X : List Nat} {W : World} {o : Option (α × List UInt8)} {P : α → World → Prop} {e : Ending} {w' : World} (h : GetEnd B gR g S X W o P e w') : e = .returned (.tuple #[]) ∨ ∃ p, e = stopped p := by
  obtain ⟨_, h2⟩ := h
  cases o with
  | none => exact .inr h2
  | some p => exact .inl h2.1
theorem GetEnd.from {α : Type} {B gR g : Nat} {S : List UInt8} {X : List Nat} {W0 W : World} {o : Option (α × List UInt8)} {P : α → World → Prop} {e : Ending} {w' : World} (h : GetEnd B gR g S X W o P e w') (hb : But (g :: X) W0 W) : GetEnd B gR g S X W0 o P e w' := ⟨hb.trans h.1, h.2⟩
section
variable {B gR g gx : Nat} {S : List UInt8} {W : World} {tx : TypeId}
end
end Go.Proofs.YtdaojlipkffigaaGreatDoor
namespace Go.Proofs.YtdaojlipkffigaaGreatDoor
set_option linter.unusedVariables false
set_option linter.unusedSimpArgs false
set_option maxRecDepth 100000
open Go Go.RowKit
def Lk (rs : List (Nat × Rd1)) (j : Nat) (x : Rd1) (z : Prop) : Prop := (look rs j = none ∧ z) ∨ (look rs j = some x ∧ ¬ z)
theorem Lk.same (rs : List (Nat × Rd1)) (j : Nat) (x : Rd1) {z : Prop} (h : ¬ z) : Lk ((j, x) :: rs) j x z := Or.inr ⟨look_same rs j x, h⟩
theorem Strs.nil (w : World) (base : Nat) : Strs w base (.slice none 0 0) [] := ⟨rfl, Or.inl ⟨rfl, rfl⟩⟩
def TL (w : World) (base : Nat) (v : Value) (xs : List (List UInt8)) : Prop := Strs w base v xs ∧ (∀ x ∈ xs, x.length ≤ 10240) ∧ xs.length ≤ 10240
theorem TL.nil (w : World) (base : Nat) : TL w base (.slice none 0 0) [] := ⟨Strs.nil w base, by simp, by simp⟩
theorem TL.but {w w' : World} {base : Nat} {v : Value} {xs : List (List UInt8)} {L : List Nat} (h : TL w base v xs) (hb : But L w w') (hL : ∀ k ∈ L, k < base) : TL w' base v xs := ⟨h.1.but hb hL, h.2⟩
end Go.Proofs.YtdaojlipkffigaaGreatDoor
namespace Go.Proofs.YtdaojlipkffigaaGreatDoor
set_option linter.unusedVariables false
set_option linter.unusedSimpArgs false
set_option maxRecDepth 100000
open Go Go.RowKit
end Go.Proofs.YtdaojlipkffigaaGreatDoor
namespace Go.Proofs.YtdaojlipkffigaaGreatDoor
set_option linter.unusedVariables false
set_option linter.unusedSimpArgs false
set_option maxRecDepth 100000
open Go Go.RowKit
end Go.Proofs.YtdaojlipkffigaaGreatDoor
namespace Go.Proofs.YtdaojlipkffigaaGreatDoor
set_option linter.unusedVariables false
set_option linter.unusedSimpArgs false
open Go Go.RowKit
def Rw (w : World) (base : Nat) (t : TypeId) (size : Nat) (v : Value) (n : Nat) : Prop := ∃ xs, w.ownsRow base t size v n xs
theorem Rw.nil (w : World) (base : Nat) (t : TypeId) (size : Nat) : Rw w base t size (.slice none 0 0) 0 := ⟨[], by simp, Or.inl ⟨rfl, rfl⟩⟩
theorem Rw.but {w w' : World} {base : Nat} {t : TypeId} {size : Nat} {v : Value} {n : Nat} {L : List Nat} (h : Rw w base t size v n) (hb : But L w w') (hL : ∀ k ∈ L, k < base) : Rw w' base t size v n := by
  obtain ⟨xs, hx⟩ := h
  refine ⟨xs, ownsRow_but hx hb fun k hk e => ?_⟩
  have h1 := ownsRow_lt hx e
  have h2 := hL k hk
  omega
theorem Rw.own {w : World} {base : Nat} {t : TypeId} {size : Nat} {v : Value} {n : Nat} (h : Rw w base t size v n) : ∀ b ∈ v.ownBlock.toList, base ≤ b ∧ b < w.heap.size := by
  obtain ⟨xs, hx⟩ := h
  intro b hb
  exact ownsRow_lt hx (Option.mem_toList.1 hb)
end Go.Proofs.YtdaojlipkffigaaGreatDoor
