/- What the row of FnSource says of the program's text. -/
import Derived.Test.YtblcfalolllikaaRows
import Derived.WalkKit
import Derived.ProofKit
import Derived.OpenShut
import Derived.SizedLaws
namespace Go.Proofs.Ytblcfalolllikaa.fnSource
open Go.ChangeShapes Go.WideShapes Go.ChangeAt Go.RowKit
theorem named : Try.pinned.checked.prog.funcNamed Rows.fnSourceRow.func = some 4 := by kernel_rfl
theorem facts : joinedFacts Try.pinned.checked.prog 4 Try.f4 Rows.fnSourceSpec Rows.fnSourceRow = true := by kernel_rfl
end Go.Proofs.Ytblcfalolllikaa.fnSource
