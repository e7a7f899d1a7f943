/- RQ: merged by merge.py. -/
import Derived.Test.YtdaojlipkffigaaGreatDoorCB14
import Derived.Test.YtdaojlipkffigaaGreatDoorCB15
namespace Go.Proofs.YtdaojlipkffigaaGreatDoor
set_option linter.unusedVariables false
set_option linter.unusedSimpArgs false
set_option maxRecDepth 100000
open Go Go.RowKit
section
variable {P : Program} {ops : Array Oper} {Q : Exit → Act → World → Prop} {md : Region.Mode} {B C X : List Nat}
end
end Go.Proofs.YtdaojlipkffigaaGreatDoor
