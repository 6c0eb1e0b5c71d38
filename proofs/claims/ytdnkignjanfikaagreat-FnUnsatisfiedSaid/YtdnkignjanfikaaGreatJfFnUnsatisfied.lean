/- What the row of FnUnsatisfied says of the program's text. -/
import Derived.Test.YtdnkignjanfikaaGreatRows
import Derived.WalkKit
import Derived.ProofKit
import Derived.OpenShut
import Derived.SizedLaws
namespace Go.Proofs.YtdnkignjanfikaaGreat.fnUnsatisfied
open Go.ChangeShapes Go.WideShapes Go.ChangeAt Go.RowKit
set_option maxHeartbeats 10000000
theorem c2M:Tryz.pinned.checked.prog.funcNamed Rows.fnUnsatisfiedRow.func=some 5:=by kernel_rfl
theorem c1F:joinedFacts Tryz.pinned.checked.prog 5 Tryz.f5 Rows.fnUnsatisfiedSpec Rows.fnUnsatisfiedRow=true:=by
 unfold joinedFacts
 repeat' with_reducible refine Bool.and_eq_true_iff.2 ⟨?_, ?_⟩
 all_goals as_aux_lemma=>kernel_rfl
end Go.Proofs.YtdnkignjanfikaaGreat.fnUnsatisfied
