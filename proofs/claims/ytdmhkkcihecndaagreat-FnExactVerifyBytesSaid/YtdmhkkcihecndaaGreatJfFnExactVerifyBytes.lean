/- What the row of FnExactVerifyBytes says of the program's text. -/
import Derived.Test.YtdmhkkcihecndaaGreatRows
import Derived.WalkKit
import Derived.ProofKit
import Derived.OpenShut
import Derived.SizedLaws
namespace Go.Proofs.YtdmhkkcihecndaaGreat.fnExactVerifyBytes
open Go.ChangeShapes Go.WideShapes Go.ChangeAt Go.RowKit
theorem b9F:Tryz.pinned.checked.prog.funcNamed Rows.fnExactVerifyBytesRow.func=some 6:=by kernel_rfl
theorem b93:joinedFacts Tryz.pinned.checked.prog 6 Tryz.f6 Rows.fnExactVerifyBytesSpec Rows.fnExactVerifyBytesRow=true:=by kernel_rfl
end Go.Proofs.YtdmhkkcihecndaaGreat.fnExactVerifyBytes
