/- Part. -/
import Derived.Test.YtdnkignjanfikaaGreatTb0
set_option linter.unusedVariables false
set_option maxRecDepth 100000
set_option maxHeartbeats 2000000
namespace Go.AI.Fn
open Proofs.Tryz
def mo:=cv (a:=gT f387 [[0],[2]])
def fL:aJ:=⟨6,mkC mo.1,[.tmp 2],.false,.false⟩
theorem to:OkF 387 fL:=okq func387
end Go.AI.Fn
