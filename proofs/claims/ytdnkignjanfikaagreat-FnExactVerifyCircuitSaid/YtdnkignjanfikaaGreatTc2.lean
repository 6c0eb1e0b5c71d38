/- Part. -/
import Derived.Test.YtdnkignjanfikaaGreatTb0
set_option linter.unusedVariables false
set_option maxRecDepth 100000
set_option maxHeartbeats 2000000
namespace Go.AI.Fn
open Proofs.Tryz
def mN:=cv (a:=gT f387 [[0],[2]])
def fO:aJ:=⟨6,mkC mN.1,[.tmp 2],.false,.false⟩
theorem th:OkF 387 fO:=okq func387
end Go.AI.Fn
