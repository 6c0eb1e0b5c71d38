/- What the row of FnBinds says of the program's text. -/
import Derived.Test.YtgjlndaebhaciaaRows
import Derived.WalkKit
import Derived.ProofKit
import Derived.OpenShut
import Derived.SizedLaws
namespace Go.Proofs.Ytgjlndaebhaciaa.fnBinds
open Go.ChangeShapes Go.WideShapes Go.ChangeAt Go.RowKit
theorem a1k:Try.pinned.checked.prog.funcNamed Rows.fnBindsRow.func=some 5:=by kernel_rfl
theorem a0d:joinedFacts Try.pinned.checked.prog 5 Try.f5 Rows.fnBindsSpec Rows.fnBindsRow=true:=by kernel_rfl
end Go.Proofs.Ytgjlndaebhaciaa.fnBinds
