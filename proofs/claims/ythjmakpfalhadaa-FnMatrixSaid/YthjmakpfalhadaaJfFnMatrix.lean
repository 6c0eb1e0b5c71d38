/- What the row of FnMatrix says of the program's text. -/
import Derived.Test.YthjmakpfalhadaaRows
import Derived.WalkKit
import Derived.ProofKit
import Derived.OpenShut
import Derived.SizedLaws
namespace Go.Proofs.Ythjmakpfalhadaa.fnMatrix
open Go.ChangeShapes Go.WideShapes Go.ChangeAt Go.RowKit
theorem named : Try.pinned.checked.prog.funcNamed Rows.fnMatrixRow.func = some 12 := by kernel_rfl
theorem facts : joinedFacts Try.pinned.checked.prog 12 Try.f12 Rows.fnMatrixSpec Rows.fnMatrixRow = true := by kernel_rfl
end Go.Proofs.Ythjmakpfalhadaa.fnMatrix
