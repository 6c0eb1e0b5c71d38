/- FnExactSecure: the program's Secure answers as the reference's, for all settings and numbers. No condition. -/
import Derived.Test.YtjeihkabobjlbaaRows
import Derived.Test.YtjeihkabobjlbaaEvS
import Derived.Test.YtjeihkabobjlbaaAiTop2
import Derived.WalkKit
import Derived.ProofKit
import Derived.OpenShut
import Derived.SizedLaws
set_option linter.unusedVariables false
namespace Go.Proofs.Ytjeihkabobjlbaa.fnExactSecure
open Go.ChangeShapes Go.WideShapes Go.ChangeAt Go.RowKit Go.AI
theorem own : ownKnob Try.prog.godebug = none := by kernel_rfl
theorem laid : laidOutB Try.prog = true := by kernel_rfl
theorem arg {H : Type} {ds : List (DataW H)} {az : List V} (h : argsV Try.prog 4 Try.f4.params.toList ds = some az) : ∃ r q g b : Int, az = [.agg [.lit (.int .i64 r), .lit (.int .i64 q), .lit (.int .i64 g)], .lit (.int .i64 b)] := by
  obtain ⟨d, ds', a, b, rfl, h1, h2, rfl⟩ := argsV_cons h
  obtain ⟨d2, ds2, a2, b2, rfl, k1, k2, rfl⟩ := argsV_cons h2
  obtain ⟨rfl, rfl⟩ := argsV_nil k2
  obtain ⟨b, rfl, _, _⟩ := argV_int Try.underlying3 k1
  obtain ⟨vs, rfl, h3⟩ := argV_struct Try.underlying23 h1
  obtain ⟨ps, rfl, h4⟩ := dataV_struct Try.underlying23 h3
  obtain ⟨_, _, _, _, rfl, g1, h5, rfl⟩ := fieldsV_cons h4
  obtain ⟨_, _, _, _, rfl, g2, h6, rfl⟩ := fieldsV_cons h5
  obtain ⟨_, _, _, _, rfl, g3, h7, rfl⟩ := fieldsV_cons h6
  obtain ⟨rfl, rfl⟩ := fieldsV_nil h7
  obtain ⟨r, rfl, _, _⟩ := dataV_int Try.underlying3 g1
  obtain ⟨q, rfl, _, _⟩ := dataV_int Try.underlying3 g2
  obtain ⟨g, rfl, _, _⟩ := dataV_int Try.underlying3 g3
  exact ⟨r, q, g, b, rfl⟩
set_option maxRecDepth 100000 in
theorem lifted (os : Os) (started : os.Started) (H : Type) (enc : TypeId × Value → H) :
    ReturnsInHanded {} Try.checked os 4 .any (Rows.fnExactSecureSpec.pre6 enc Try.prog Try.f4 Rows.fnExactSecureRow.domain false) (Rows.fnExactSecureSpec.post enc Try.prog Try.f4 false true false false) := by
  refine returnsInHanded_of_change_sized (C := Try.checked) own started (by kernel_rfl) Try.func4
    (ChangeSpec.witness6 (enc := enc) (C := Try.checked) false ⟨#[], #[.agg #[.int .i64 0, .int .i64 0, .int .i64 0], .int .i64 0], []⟩ 8 (by kernel_rfl) (by kernel_rfl) (by kernel_rfl) (by kernel_rfl)) ?_
  intro W base args ds gs before hval hW hcnd hsz _
  refine law_calls (P := Try.prog) (ow := Tb.ow0) (n := 4) Tb.tabOK Tb.tab4 Try.func4 (by kernel_rfl) laid (by kernel_rfl) (by kernel_rfl) Try.underlying4 rfl (fun ds h => ?_) hval hW (fun az h => ?_)
  · match ds, h with
    | [d1, d2], _ => rfl
    | [], h => cases h
    | [_], h => cases h
    | _ :: _ :: _ :: _, h => cases h
  · obtain ⟨r, q, g, b, rfl⟩ := arg h
    exact Tb.law4 r q g b
theorem over : Rows.fnExactSecureRow.holds Try.pinned (OpenSpec.ofChange Rows.fnExactSecureSpec) :=
  OpenClaim.holds_of_wide 4 Try.f4 rfl rfl rfl rfl rfl rfl rfl ⟨rfl, rfl, rfl, rfl, rfl⟩ rfl rfl rfl rfl rfl (by kernel_rfl) Try.func4 (by kernel_rfl)
    (of_decide_eq_true (by kernel_rfl)) (by unfold Func.isWrapper; first | (rw [if_pos (by decide +kernel)]; kernel_rfl) | (rw [if_neg (by decide +kernel)]; exact ⟨rfl, rfl⟩))
    (fun os started H enc _ => lifted os started H enc)
theorem proved : Rows.FnExactSecureSaid := over
#print axioms proved
end Go.Proofs.Ytjeihkabobjlbaa.fnExactSecure
namespace Go.Proofs.Ytjeihkabobjlbaa
/-- The row, under a short name, for the claim. -/
theorem fnExactSecure_holds : Rows.FnExactSecureSaid := fnExactSecure.proved
end Go.Proofs.Ytjeihkabobjlbaa
