import Derived.Test.YtaneaabmgnanbaaKMgraph
import Derived.LoopTactic
namespace Go.Proofs.Ytaneaabmgnanbaa.M
open Go.RowKit Go.Proofs.YtaneaabmgnanbaaW.PrintWords Go.Proofs.YtaneaabmgnanbaaW.PrintLast Go.Proofs.YtaneaabmgnanbaaW.PrintMore Go.Proofs.Ytaneaabmgnanbaa.PAdvBack
set_option linter.unusedVariables false
set_option linter.unusedSimpArgs false
instance : Inhabited S52 := ⟨z52⟩
end Go.Proofs.Ytaneaabmgnanbaa.M
