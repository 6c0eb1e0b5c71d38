/- What the row of FnFoldWord says of the program's text. -/
import Derived.Test.YthjmakpfalhadaaRows
import Derived.WalkKit
import Derived.ProofKit
import Derived.OpenShut
import Derived.SizedLaws
namespace Go.Proofs.Ythjmakpfalhadaa.fnFoldWord
open Go.ChangeShapes Go.WideShapes Go.ChangeAt Go.RowKit
theorem named : Try.pinned.checked.prog.funcNamed Rows.fnFoldWordRow.func = some 4 := by kernel_rfl
theorem facts : joinedFacts Try.pinned.checked.prog 4 Try.f4 Rows.fnFoldWordSpec Rows.fnFoldWordRow = true := by kernel_rfl
end Go.Proofs.Ythjmakpfalhadaa.fnFoldWord
