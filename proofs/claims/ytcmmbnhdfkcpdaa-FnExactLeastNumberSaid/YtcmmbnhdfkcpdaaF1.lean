/- slices.Clone of products. -/
import Derived.Test.YtcmmbnhdfkcpdaaS3
import Derived.Test.YtcmmbnhdfkcpdaaZ1
namespace Go.Proofs.Ytcmmbnhdfkcpdaa
open Go Go.Abs
set_option maxRecDepth 100000

set_option maxRecDepth 100000
set_option maxHeartbeats 8000000
set_option linter.unusedVariables false
attribute [-simp] List.getD_eq_getElem?_getD
attribute [-go_sem] confV

theorem undProdS : Try.prog.underlying 39 = some (.slice 141) := by kernel_rfl

end Go.Proofs.Ytcmmbnhdfkcpdaa
