/- What the row of FnSumLies says of the program's text. -/
import Derived.Test.YtmhgflhndmcdmaaGreatRows
import Derived.WalkKit
import Derived.ProofKit
import Derived.OpenShut
import Derived.SizedLaws
namespace Go.Proofs.YtmhgflhndmcdmaaGreat.fnSumLies
open Go.ChangeShapes Go.WideShapes Go.ChangeAt Go.RowKit
theorem named : Tryz.pinned.checked.prog.funcNamed Rows.fnSumLiesRow.func = some 4 := by kernel_rfl
theorem facts : joinedFacts Tryz.pinned.checked.prog 4 Tryz.f4 Rows.fnSumLiesSpec Rows.fnSumLiesRow = true := by kernel_rfl
end Go.Proofs.YtmhgflhndmcdmaaGreat.fnSumLies
