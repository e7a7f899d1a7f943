/- SV: merged by merge.py. -/
import Derived.Test.YtcaimmhhklcpoaaGreatDoorLK07
import Derived.Test.YtcaimmhhklcpoaaGreatDoorLK11
namespace Go.Proofs.YtcaimmhhklcpoaaGreatDoor
set_option linter.unusedVariables false
set_option linter.unusedSimpArgs false
set_option maxRecDepth 100000
open Go Go.RowKit
end Go.Proofs.YtcaimmhhklcpoaaGreatDoor
