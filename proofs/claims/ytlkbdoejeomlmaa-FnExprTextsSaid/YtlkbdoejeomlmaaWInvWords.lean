
import Derived.Test.YtlkbdoejeomlmaaWInv
import Derived.Test.YtlkbdoejeomlmaaWFootNe
namespace Go.Proofs.YtlkbdoejeomlmaaW.PrintWords
open Go.RowKit
end Go.Proofs.YtlkbdoejeomlmaaW.PrintWords
namespace Go.Proofs.YtlkbdoejeomlmaaW.PrintLast
section
variable {ops : Array Oper} {a : Act} {o og : Oper} {g : Nat} {t : Tmp} {u : Bool}
end
end Go.Proofs.YtlkbdoejeomlmaaW.PrintLast
