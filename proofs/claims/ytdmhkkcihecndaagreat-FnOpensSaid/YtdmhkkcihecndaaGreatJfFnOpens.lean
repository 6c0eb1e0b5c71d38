/- What the row of FnOpens says of the program's text. -/
import Derived.Test.YtdmhkkcihecndaaGreatRows
import Derived.WalkKit
import Derived.ProofKit
import Derived.OpenShut
import Derived.SizedLaws
namespace Go.Proofs.YtdmhkkcihecndaaGreat.fnOpens
open Go.ChangeShapes Go.WideShapes Go.ChangeAt Go.RowKit
theorem b6n:Tryz.pinned.checked.prog.funcNamed Rows.fnOpensRow.func=some 3:=by kernel_rfl
theorem b5D:joinedFacts Tryz.pinned.checked.prog 3 Tryz.f3 Rows.fnOpensSpec Rows.fnOpensRow=true:=by kernel_rfl
end Go.Proofs.YtdmhkkcihecndaaGreat.fnOpens
