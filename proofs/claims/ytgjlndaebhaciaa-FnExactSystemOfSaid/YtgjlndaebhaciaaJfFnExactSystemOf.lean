/- What the row of FnExactSystemOf says of the program's text. -/
import Derived.Test.YtgjlndaebhaciaaRows
import Derived.WalkKit
import Derived.ProofKit
import Derived.OpenShut
import Derived.SizedLaws
namespace Go.Proofs.Ytgjlndaebhaciaa.fnExactSystemOf
open Go.ChangeShapes Go.WideShapes Go.ChangeAt Go.RowKit
theorem QT:Try.pinned.checked.prog.funcNamed Rows.fnExactSystemOfRow.func=some 3:=by kernel_rfl
theorem QL:joinedFacts Try.pinned.checked.prog 3 Try.f3 Rows.fnExactSystemOfSpec Rows.fnExactSystemOfRow=true:=by kernel_rfl
end Go.Proofs.Ytgjlndaebhaciaa.fnExactSystemOf
