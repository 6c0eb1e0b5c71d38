/- What the row of FnExactVerifyCircuit says of the program's text. -/
import Derived.Test.YtdnkignjanfikaaGreatRows
import Derived.WalkKit
import Derived.ProofKit
import Derived.OpenShut
import Derived.SizedLaws
namespace Go.Proofs.YtdnkignjanfikaaGreat.fnExactVerifyCircuit
open Go.ChangeShapes Go.WideShapes Go.ChangeAt Go.RowKit
set_option maxHeartbeats 10000000
theorem c7f:Tryz.pinned.checked.prog.funcNamed Rows.fnExactVerifyCircuitRow.func=some 7:=by kernel_rfl
theorem c7i:joinedFacts Tryz.pinned.checked.prog 7 Tryz.f7 Rows.fnExactVerifyCircuitSpec Rows.fnExactVerifyCircuitRow=true:=by
 unfold joinedFacts
 repeat' with_reducible refine Bool.and_eq_true_iff.2 ⟨?_, ?_⟩
 all_goals as_aux_lemma=>kernel_rfl
end Go.Proofs.YtdnkignjanfikaaGreat.fnExactVerifyCircuit
