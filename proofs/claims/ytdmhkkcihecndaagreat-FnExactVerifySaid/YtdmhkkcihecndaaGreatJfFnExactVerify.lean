/- What the row of FnExactVerify says of the program's text. -/
import Derived.Test.YtdmhkkcihecndaaGreatRows
import Derived.WalkKit
import Derived.ProofKit
import Derived.OpenShut
import Derived.SizedLaws
namespace Go.Proofs.YtdmhkkcihecndaaGreat.fnExactVerify
open Go.ChangeShapes Go.WideShapes Go.ChangeAt Go.RowKit
theorem b5j:Tryz.pinned.checked.prog.funcNamed Rows.fnExactVerifyRow.func=some 5:=by kernel_rfl
theorem b6e:joinedFacts Tryz.pinned.checked.prog 5 Tryz.f5 Rows.fnExactVerifySpec Rows.fnExactVerifyRow=true:=by kernel_rfl
end Go.Proofs.YtdmhkkcihecndaaGreat.fnExactVerify
