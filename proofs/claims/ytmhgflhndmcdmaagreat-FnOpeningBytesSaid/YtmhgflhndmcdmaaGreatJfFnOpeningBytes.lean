/- What the row of FnOpeningBytes says of the program's text. -/
import Derived.Test.YtmhgflhndmcdmaaGreatRows
import Derived.WalkKit
import Derived.ProofKit
import Derived.OpenShut
import Derived.SizedLaws
namespace Go.Proofs.YtmhgflhndmcdmaaGreat.fnOpeningBytes
open Go.ChangeShapes Go.WideShapes Go.ChangeAt Go.RowKit
theorem named : Tryz.pinned.checked.prog.funcNamed Rows.fnOpeningBytesRow.func = some 6 := by kernel_rfl
theorem facts : joinedFacts Tryz.pinned.checked.prog 6 Tryz.f6 Rows.fnOpeningBytesSpec Rows.fnOpeningBytesRow = true := by kernel_rfl
end Go.Proofs.YtmhgflhndmcdmaaGreat.fnOpeningBytes
