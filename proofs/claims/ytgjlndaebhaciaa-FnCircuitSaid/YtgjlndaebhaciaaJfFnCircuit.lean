/- What the row of FnCircuit says of the program's text. -/
import Derived.Test.YtgjlndaebhaciaaRows
import Derived.WalkKit
import Derived.ProofKit
import Derived.OpenShut
import Derived.SizedLaws
namespace Go.Proofs.Ytgjlndaebhaciaa.fnCircuit
open Go.ChangeShapes Go.WideShapes Go.ChangeAt Go.RowKit
theorem Xa:Try.pinned.checked.prog.funcNamed Rows.fnCircuitRow.func=some 4:=by kernel_rfl
theorem XP:joinedFacts Try.pinned.checked.prog 4 Try.f4 Rows.fnCircuitSpec Rows.fnCircuitRow=true:=by kernel_rfl
end Go.Proofs.Ytgjlndaebhaciaa.fnCircuit
