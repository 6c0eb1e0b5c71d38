/- What the row of FnExactPublicAt says of the program's text. -/
import Derived.Test.YthjmakpfalhadaaRows
import Derived.WalkKit
import Derived.ProofKit
import Derived.OpenShut
import Derived.SizedLaws
namespace Go.Proofs.Ythjmakpfalhadaa.fnExactPublicAt
open Go.ChangeShapes Go.WideShapes Go.ChangeAt Go.RowKit
theorem named : Try.pinned.checked.prog.funcNamed Rows.fnExactPublicAtRow.func = some 10 := by kernel_rfl
theorem facts : joinedFacts Try.pinned.checked.prog 10 Try.f10 Rows.fnExactPublicAtSpec Rows.fnExactPublicAtRow = true := by kernel_rfl
end Go.Proofs.Ythjmakpfalhadaa.fnExactPublicAt
