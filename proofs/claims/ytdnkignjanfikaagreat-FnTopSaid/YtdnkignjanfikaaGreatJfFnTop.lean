/- What the row of FnTop says of the program's text. -/
import Derived.Test.YtdnkignjanfikaaGreatRows
import Derived.WalkKit
import Derived.ProofKit
import Derived.OpenShut
import Derived.SizedLaws
namespace Go.Proofs.YtdnkignjanfikaaGreat.fnTop
open Go.ChangeShapes Go.WideShapes Go.ChangeAt Go.RowKit
set_option maxHeartbeats 10000000
theorem c53:Tryz.pinned.checked.prog.funcNamed Rows.fnTopRow.func=some 3:=by kernel_rfl
theorem c50:joinedFacts Tryz.pinned.checked.prog 3 Tryz.f3 Rows.fnTopSpec Rows.fnTopRow=true:=by
 unfold joinedFacts
 repeat' with_reducible refine Bool.and_eq_true_iff.2 ⟨?_, ?_⟩
 all_goals as_aux_lemma=>kernel_rfl
end Go.Proofs.YtdnkignjanfikaaGreat.fnTop
