/- What the row of FnMerkle says of the program's text. -/
import Derived.Test.YthjmakpfalhadaaRows
import Derived.WalkKit
import Derived.ProofKit
import Derived.OpenShut
import Derived.SizedLaws
namespace Go.Proofs.Ythjmakpfalhadaa.fnMerkle
open Go.ChangeShapes Go.WideShapes Go.ChangeAt Go.RowKit
theorem named : Try.pinned.checked.prog.funcNamed Rows.fnMerkleRow.func = some 13 := by kernel_rfl
theorem facts : joinedFacts Try.pinned.checked.prog 13 Try.f13 Rows.fnMerkleSpec Rows.fnMerkleRow = true := by kernel_rfl
end Go.Proofs.Ythjmakpfalhadaa.fnMerkle
