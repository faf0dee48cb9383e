
import Derived.Test.YtceimgnkkclebaaWInv
import Derived.Test.YtceimgnkkclebaaWFootNe
namespace Go.Proofs.YtceimgnkkclebaaW.PrintWords
open Go.RowKit
end Go.Proofs.YtceimgnkkclebaaW.PrintWords
namespace Go.Proofs.YtceimgnkkclebaaW.PrintLast
section
variable {ops : Array Oper} {a : Act} {o og : Oper} {g : Nat} {t : Tmp} {u : Bool}
end
end Go.Proofs.YtceimgnkkclebaaW.PrintLast
