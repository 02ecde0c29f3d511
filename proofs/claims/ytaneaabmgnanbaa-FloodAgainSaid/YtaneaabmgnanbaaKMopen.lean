import Derived.Test.YtaneaabmgnanbaaKWWords
import Derived.Deep.Slices
import Derived.ChangeArms
namespace Go.Proofs.Ytaneaabmgnanbaa.M
open Go.RowKit Go.Proofs.YtaneaabmgnanbaaW.PrintWords
variable {P : Program}
end Go.Proofs.Ytaneaabmgnanbaa.M
