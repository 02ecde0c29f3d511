import Derived.Test.YtaneaabmgnanbaaKMAdvBoth
import Derived.LoopTactic
namespace Go.Proofs.Ytaneaabmgnanbaa.M
open Go.RowKit Go.Proofs.YtaneaabmgnanbaaW.PrintWords Go.Proofs.YtaneaabmgnanbaaW.PrintLast Go.Proofs.YtaneaabmgnanbaaW.PrintMore Go.Proofs.Ytaneaabmgnanbaa.PAdvBack
set_option linter.unusedVariables false
set_option linter.unusedSimpArgs false
theorem fld46_1 (n : Nat) (A : Option Addr) (c : Nat) (W : World) : (Instr.field 46 (.agg #[.int .i64 16, .slice A n c]) 1).run Try.prog W = .ok (.slice A n c) W := by kernel_rfl
theorem below_self {w w1 w2 : World} (h : Below w.heap.size w w1) (h2 : Below w1.heap.size w1 w2) : Below w.heap.size w w2 := h.trans (h2.mono h.size)
end Go.Proofs.Ytaneaabmgnanbaa.M
