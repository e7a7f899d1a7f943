/- SM: merged by merge.py. -/
import Derived.Test.YtcaimmhhklcpoaaGreatDoorLK02
import Derived.Test.YtcaimmhhklcpoaaGreatDoorLK18
import Derived.Test.YtcaimmhhklcpoaaGreatDoorLK19
namespace Go.Proofs.YtcaimmhhklcpoaaGreatDoor
set_option linter.unusedVariables false
set_option linter.unusedSimpArgs false
set_option maxRecDepth 100000
open Go Go.RowKit
theorem badE_eq (first : LM) (st : Nat) (f : Nat → LR) (i : Nat) : badE first st f i = (tk (f i) && (match certOf (f i).cert with
    | none => true
    | some rs => decide (sigOf rs ≤ (nowAt first f i).w) || decide (256 < st) || !decide ((nowAt first f i).w ^ coinsOf rs * 2 ^ st ≤ sigOf rs ^ coinsOf rs))) := rfl
end Go.Proofs.YtcaimmhhklcpoaaGreatDoor
