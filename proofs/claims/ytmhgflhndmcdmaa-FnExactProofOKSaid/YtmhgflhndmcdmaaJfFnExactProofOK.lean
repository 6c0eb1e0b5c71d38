/- What the row of FnExactProofOK says of the program's text. -/
import Derived.Test.YtmhgflhndmcdmaaRows
import Derived.WalkKit
import Derived.ProofKit
import Derived.OpenShut
import Derived.SizedLaws
namespace Go.Proofs.Ytmhgflhndmcdmaa.fnExactProofOK
open Go.ChangeShapes Go.WideShapes Go.ChangeAt Go.RowKit
theorem named : Try.pinned.checked.prog.funcNamed Rows.fnExactProofOKRow.func = some 7 := by kernel_rfl
theorem facts : joinedFacts Try.pinned.checked.prog 7 Try.f7 Rows.fnExactProofOKSpec Rows.fnExactProofOKRow = true := by kernel_rfl
end Go.Proofs.Ytmhgflhndmcdmaa.fnExactProofOK
