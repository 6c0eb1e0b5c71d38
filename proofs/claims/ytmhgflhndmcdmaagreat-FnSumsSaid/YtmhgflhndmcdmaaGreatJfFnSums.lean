/- What the row of FnSums says of the program's text. -/
import Derived.Test.YtmhgflhndmcdmaaGreatRows
import Derived.WalkKit
import Derived.ProofKit
import Derived.OpenShut
import Derived.SizedLaws
namespace Go.Proofs.YtmhgflhndmcdmaaGreat.fnSums
open Go.ChangeShapes Go.WideShapes Go.ChangeAt Go.RowKit
theorem named : Tryz.pinned.checked.prog.funcNamed Rows.fnSumsRow.func = some 5 := by kernel_rfl
theorem facts : joinedFacts Tryz.pinned.checked.prog 5 Tryz.f5 Rows.fnSumsSpec Rows.fnSumsRow = true := by kernel_rfl
end Go.Proofs.YtmhgflhndmcdmaaGreat.fnSums
