
import Derived.Test.YthnokfmpogekoaaWInv
import Derived.Test.YthnokfmpogekoaaWFootNe
namespace Go.Proofs.YthnokfmpogekoaaW.PrintWords
open Go.RowKit
end Go.Proofs.YthnokfmpogekoaaW.PrintWords
namespace Go.Proofs.YthnokfmpogekoaaW.PrintLast
section
variable {ops : Array Oper} {a : Act} {o og : Oper} {g : Nat} {t : Tmp} {u : Bool}
end
end Go.Proofs.YthnokfmpogekoaaW.PrintLast
