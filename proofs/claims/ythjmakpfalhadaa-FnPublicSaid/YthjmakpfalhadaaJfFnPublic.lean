/- What the row of FnPublic says of the program's text. -/
import Derived.Test.YthjmakpfalhadaaRows
import Derived.WalkKit
import Derived.ProofKit
import Derived.OpenShut
import Derived.SizedLaws
namespace Go.Proofs.Ythjmakpfalhadaa.fnPublic
open Go.ChangeShapes Go.WideShapes Go.ChangeAt Go.RowKit
theorem named : Try.pinned.checked.prog.funcNamed Rows.fnPublicRow.func = some 3 := by kernel_rfl
theorem facts : joinedFacts Try.pinned.checked.prog 3 Try.f3 Rows.fnPublicSpec Rows.fnPublicRow = true := by kernel_rfl
end Go.Proofs.Ythjmakpfalhadaa.fnPublic
