/- What the row of FnFoldWord says of the program's text. -/
import Derived.Test.YtnfkfhedladdaaaRows
import Derived.WalkKit
import Derived.ProofKit
import Derived.OpenShut
import Derived.SizedLaws
namespace Go.Proofs.Ytnfkfhedladdaaa.fnFoldWord
open Go.ChangeShapes Go.WideShapes Go.ChangeAt Go.RowKit
theorem named : Try.pinned.checked.prog.funcNamed Rows.fnFoldWordRow.func = some 3 := by kernel_rfl
theorem facts : joinedFacts Try.pinned.checked.prog 3 Try.f3 Rows.fnFoldWordSpec Rows.fnFoldWordRow = true := by kernel_rfl
end Go.Proofs.Ytnfkfhedladdaaa.fnFoldWord
