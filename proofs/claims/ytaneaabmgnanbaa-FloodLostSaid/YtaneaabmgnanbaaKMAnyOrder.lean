import Derived.Test.YtaneaabmgnanbaaKMord
import Derived.Test.YtaneaabmgnanbaaKMidx
import Derived.LoopTactic
import Derived.RegionTactic
import Derived.BigRegion
namespace Go.Proofs.Ytaneaabmgnanbaa.M
open Go.RowKit Go.Proofs.YtaneaabmgnanbaaW.PrintWords Go.Proofs.YtaneaabmgnanbaaW.PrintLast Go.Proofs.YtaneaabmgnanbaaW.PrintMore Go.Proofs.Ytaneaabmgnanbaa.PAdvBack
set_option linter.unusedVariables false
set_option linter.unusedSimpArgs false
theorem list_le (d : Db) : (listOf d).length ≤ 16 := by
 unfold listOf listTo
 rw [List.length_map]
 exact Nat.le_trans (List.length_filter_le _ _) (by simp)
end Go.Proofs.Ytaneaabmgnanbaa.M
