
import Derived.Test.YtokgbcjanhogeaaWInv
import Derived.Test.YtokgbcjanhogeaaWFootNe
namespace Go.Proofs.YtokgbcjanhogeaaW.PrintWords
open Go.RowKit
end Go.Proofs.YtokgbcjanhogeaaW.PrintWords
namespace Go.Proofs.YtokgbcjanhogeaaW.PrintLast
section
variable {ops : Array Oper} {a : Act} {o og : Oper} {g : Nat} {t : Tmp} {u : Bool}
end
end Go.Proofs.YtokgbcjanhogeaaW.PrintLast
