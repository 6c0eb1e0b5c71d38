/- What the row of FnExactBoundTable says of the program's text. -/
import Derived.Test.YtdmhkkcihecndaaRows
import Derived.WalkKit
import Derived.ProofKit
import Derived.OpenShut
import Derived.SizedLaws
namespace Go.Proofs.Ytdmhkkcihecndaa.fnExactBoundTable
open Go.ChangeShapes Go.WideShapes Go.ChangeAt Go.RowKit
theorem Ok:Try.pinned.checked.prog.funcNamed Rows.fnExactBoundTableRow.func=some 5:=by kernel_rfl
theorem NR:joinedFacts Try.pinned.checked.prog 5 Try.f5 Rows.fnExactBoundTableSpec Rows.fnExactBoundTableRow=true:=by kernel_rfl
end Go.Proofs.Ytdmhkkcihecndaa.fnExactBoundTable
