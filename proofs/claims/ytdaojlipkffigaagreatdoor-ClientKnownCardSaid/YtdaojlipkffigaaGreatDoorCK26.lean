/- HK: merged by merge.py. -/
import Derived.Test.YtdaojlipkffigaaGreatDoorCK14
namespace Go.Proofs.YtdaojlipkffigaaGreatDoor
set_option linter.unusedVariables false
set_option linter.unusedSimpArgs false
set_option maxRecDepth 100000
open Go Go.RowKit
def S8.zero : S8 := ⟨0, 0, 0, 0, 0, 0, 0, 0⟩
end Go.Proofs.YtdaojlipkffigaaGreatDoor
