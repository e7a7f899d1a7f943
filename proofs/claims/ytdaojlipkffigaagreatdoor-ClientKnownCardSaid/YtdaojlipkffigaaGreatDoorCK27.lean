/- HT, HM: merged by merge.py. -/
import Derived.Test.YtdaojlipkffigaaGreatDoorCK22
import Derived.Test.YtdaojlipkffigaaGreatDoorCK06
import Derived.Test.YtdaojlipkffigaaGreatDoorCK26
import Derived.Test.YtdaojlipkffigaaGreatDoorCK23
namespace Go.Proofs.YtdaojlipkffigaaGreatDoor
set_option linter.unusedVariables false
set_option linter.unusedSimpArgs false
open Go Go.RowKit
section
variable {P : Program} {ops : Array Oper} {Q : Exit → Act → World → Prop} {md : Region.Mode} {B C X : List Nat}
end
end Go.Proofs.YtdaojlipkffigaaGreatDoor
namespace Go.Proofs.YtdaojlipkffigaaGreatDoor
set_option linter.unusedVariables false
set_option linter.unusedSimpArgs false
set_option maxRecDepth 100000
open Go Go.RowKit
end Go.Proofs.YtdaojlipkffigaaGreatDoor
