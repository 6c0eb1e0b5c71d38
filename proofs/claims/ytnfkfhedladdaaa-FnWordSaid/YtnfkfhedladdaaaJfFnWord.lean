/- What the row of FnWord says of the program's text. -/
import Derived.Test.YtnfkfhedladdaaaRows
import Derived.WalkKit
import Derived.ProofKit
import Derived.OpenShut
import Derived.SizedLaws
namespace Go.Proofs.Ytnfkfhedladdaaa.fnWord
open Go.ChangeShapes Go.WideShapes Go.ChangeAt Go.RowKit
theorem named : Try.pinned.checked.prog.funcNamed Rows.fnWordRow.func = some 4 := by kernel_rfl
theorem facts : joinedFacts Try.pinned.checked.prog 4 Try.f4 Rows.fnWordSpec Rows.fnWordRow = true := by kernel_rfl
end Go.Proofs.Ytnfkfhedladdaaa.fnWord
