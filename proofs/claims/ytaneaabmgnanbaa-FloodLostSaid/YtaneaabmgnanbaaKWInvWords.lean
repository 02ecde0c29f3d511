import Derived.Test.YtaneaabmgnanbaaKWInv
import Derived.Test.YtaneaabmgnanbaaKWFootNe
namespace Go.Proofs.YtaneaabmgnanbaaW.PrintWords
open Go.RowKit
end Go.Proofs.YtaneaabmgnanbaaW.PrintWords
namespace Go.Proofs.YtaneaabmgnanbaaW.PrintLast
section
variable {ops : Array Oper} {a : Act} {o og : Oper} {g : Nat} {t : Tmp} {u : Bool}
end
end Go.Proofs.YtaneaabmgnanbaaW.PrintLast
