import Derived.Test.YtaneaabmgnanbaaKPAdvBackx0
import Derived.Test.YtaneaabmgnanbaaKPAdvBackx1
import Derived.Test.YtaneaabmgnanbaaKPAdvBackx2
import Derived.Test.YtaneaabmgnanbaaKPAdvBackx3
import Derived.Test.YtaneaabmgnanbaaKPAdvBackx4
import Derived.Test.YtaneaabmgnanbaaKPAdvBackx5
namespace Go.Proofs.Ytaneaabmgnanbaa.PAdvBack
open Go.RowKit Go.Proofs.YtaneaabmgnanbaaW.PrintWords Go.Proofs.YtaneaabmgnanbaaW.PrintLast Go.Proofs.YtaneaabmgnanbaaW.PrintMore
attribute [local go_sem] max2_int min2_int max_two min_two max_three min_three max_four min_four
set_option linter.unusedVariables false
set_option linter.unusedSimpArgs false
end Go.Proofs.Ytaneaabmgnanbaa.PAdvBack
