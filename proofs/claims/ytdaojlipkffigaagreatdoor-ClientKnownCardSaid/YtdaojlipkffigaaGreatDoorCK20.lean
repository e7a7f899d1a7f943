/- RQ: merged by merge.py. -/
import Derived.Test.YtdaojlipkffigaaGreatDoorCK18
import Derived.Test.YtdaojlipkffigaaGreatDoorCK19
namespace Go.Proofs.YtdaojlipkffigaaGreatDoor
set_option linter.unusedVariables false
set_option linter.unusedSimpArgs false
set_option maxRecDepth 100000
open Go Go.RowKit
section
variable {P : Program} {ops : Array Oper} {Q : Exit → Act → World → Prop} {md : Region.Mode} {B C X : List Nat}
end
end Go.Proofs.YtdaojlipkffigaaGreatDoor
