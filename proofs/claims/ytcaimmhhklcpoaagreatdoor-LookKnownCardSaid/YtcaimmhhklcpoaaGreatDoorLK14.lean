/- RJ, RK, RL: merged by merge.py. -/
import Derived.Test.YtcaimmhhklcpoaaGreatDoorLK11
import Derived.Laws.IdiomStrings
namespace Go.Proofs.YtcaimmhhklcpoaaGreatDoor
set_option linter.unusedVariables false
set_option linter.unusedSimpArgs false
set_option maxRecDepth 100000
open Go Go.RowKit
end Go.Proofs.YtcaimmhhklcpoaaGreatDoor
namespace Go.Proofs.YtcaimmhhklcpoaaGreatDoor
set_option linter.unusedVariables false
set_option linter.unusedSimpArgs false
set_option maxRecDepth 100000
open Go Go.RowKit
theorem Strs.row {w : World} {base : Nat} {v : Value} {xs : List (List UInt8)} (h : Strs w base v xs) : Row w 9 v (xs.map fun x => Value.string (mkS x)) := by
  obtain ⟨h1, h2⟩ := h
  unfold Row
  rw [List.length_map]
  refine ⟨h1, ?_⟩
  rcases h2 with h2 | ⟨g, cap, cur, hv, hg, r⟩
  · exact Or.inl h2
  · exact Or.inr ⟨g, cap, cur, hv, Nat.zero_le _, r⟩
end Go.Proofs.YtcaimmhhklcpoaaGreatDoor
namespace Go.Proofs.YtcaimmhhklcpoaaGreatDoor
set_option linter.unusedVariables false
set_option linter.unusedSimpArgs false
set_option maxRecDepth 100000
open Go Go.RowKit
end Go.Proofs.YtcaimmhhklcpoaaGreatDoor
