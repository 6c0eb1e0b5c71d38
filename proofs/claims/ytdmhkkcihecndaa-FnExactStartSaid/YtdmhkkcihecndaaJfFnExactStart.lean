/- What the row of FnExactStart says of the program's text. -/
import Derived.Test.YtdmhkkcihecndaaRows
import Derived.WalkKit
import Derived.ProofKit
import Derived.OpenShut
import Derived.SizedLaws
namespace Go.Proofs.Ytdmhkkcihecndaa.fnExactStart
open Go.ChangeShapes Go.WideShapes Go.ChangeAt Go.RowKit
theorem Vy:Try.pinned.checked.prog.funcNamed Rows.fnExactStartRow.func=some 7:=by kernel_rfl
theorem UY:joinedFacts Try.pinned.checked.prog 7 Try.f7 Rows.fnExactStartSpec Rows.fnExactStartRow=true:=by kernel_rfl
end Go.Proofs.Ytdmhkkcihecndaa.fnExactStart
