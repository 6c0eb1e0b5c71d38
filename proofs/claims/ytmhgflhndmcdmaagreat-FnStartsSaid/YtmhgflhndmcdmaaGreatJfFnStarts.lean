/- What the row of FnStarts says of the program's text. -/
import Derived.Test.YtmhgflhndmcdmaaGreatRows
import Derived.WalkKit
import Derived.ProofKit
import Derived.OpenShut
import Derived.SizedLaws
namespace Go.Proofs.YtmhgflhndmcdmaaGreat.fnStarts
open Go.ChangeShapes Go.WideShapes Go.ChangeAt Go.RowKit
theorem named : Tryz.pinned.checked.prog.funcNamed Rows.fnStartsRow.func = some 3 := by kernel_rfl
theorem facts : joinedFacts Tryz.pinned.checked.prog 3 Tryz.f3 Rows.fnStartsSpec Rows.fnStartsRow = true := by kernel_rfl
end Go.Proofs.YtmhgflhndmcdmaaGreat.fnStarts
