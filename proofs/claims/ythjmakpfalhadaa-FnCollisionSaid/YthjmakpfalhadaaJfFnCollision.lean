/- What the row of FnCollision says of the program's text. -/
import Derived.Test.YthjmakpfalhadaaRows
import Derived.WalkKit
import Derived.ProofKit
import Derived.OpenShut
import Derived.SizedLaws
namespace Go.Proofs.Ythjmakpfalhadaa.fnCollision
open Go.ChangeShapes Go.WideShapes Go.ChangeAt Go.RowKit
theorem named : Try.pinned.checked.prog.funcNamed Rows.fnCollisionRow.func = some 11 := by kernel_rfl
theorem facts : joinedFacts Try.pinned.checked.prog 11 Try.f11 Rows.fnCollisionSpec Rows.fnCollisionRow = true := by kernel_rfl
end Go.Proofs.Ythjmakpfalhadaa.fnCollision
