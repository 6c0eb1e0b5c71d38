/- FnWork: the law answers true for all texts. No condition. -/
import Derived.Test.YtjeihkabobjlbaaRows
import Derived.Test.YtjeihkabobjlbaaPuFnWork
import Derived.Test.YtjeihkabobjlbaaAiTop3
import Derived.WalkKit
import Derived.ProofKit
import Derived.OpenShut
import Derived.SizedLaws
set_option linter.unusedVariables false
namespace Go.Proofs.Ytjeihkabobjlbaa.fnWork
open Go.ChangeShapes Go.WideShapes Go.ChangeAt Go.RowKit Go.AI
theorem own : ownKnob Try.prog.godebug = none := by kernel_rfl
theorem laid : laidOutB Try.prog = true := by kernel_rfl
theorem bytes {H : Type} {d : DataW H} {v : V} (h : argV Try.prog 4 36 d = some v) : ∃ l : List UInt8, v = sl eU8 l := by
  obtain ⟨l, h, _⟩ := argV_slice eU8 Try.underlying36 (by kernel_rfl) (fun d vs h => dataV_u8 Try.underlying5 d vs h) h
  exact ⟨l, h⟩
theorem arg {H : Type} {ds : List (DataW H)} {az : List V} (h : argsV Try.prog 4 Try.f7.params.toList ds = some az) : ∃ a b : List UInt8, az = [sl eU8 a, sl eU8 b] := by
  obtain ⟨d0, ds0, a0, b0, rfl, g0, k0, rfl⟩ := argsV_cons h
  obtain ⟨d1, ds1, a1, b1, rfl, g1, k1, rfl⟩ := argsV_cons k0
  obtain ⟨rfl, rfl⟩ := argsV_nil k1
  obtain ⟨l0, rfl⟩ := bytes g0
  obtain ⟨l1, rfl⟩ := bytes g1
  exact ⟨l0, l1, rfl⟩
set_option maxRecDepth 100000 in
theorem lifted (os : Os) (started : os.Started) (H : Type) (enc : TypeId × Value → H) :
    ReturnsInHanded {} Try.checked os 7 .any (Rows.fnWorkSpec.pre6 enc Try.prog Try.f7 Rows.fnWorkRow.domain false) (Rows.fnWorkSpec.post enc Try.prog Try.f7 false true false false) := by
  refine returnsInHanded_of_change_sized (C := Try.checked) own started (by kernel_rfl) Try.func7
    (ChangeSpec.witness6 (enc := enc) (C := Try.checked) false ⟨#[], #[.slice none 0 0, .slice none 0 0], []⟩ 8 (by kernel_rfl) (by kernel_rfl) (by kernel_rfl) (by kernel_rfl)) ?_
  intro W base args ds gs before hval hW hcnd hsz _
  refine law_calls (P := Try.prog) (ow := Fn.ow) (n := 4) Fn.tabOK (T := Fn.tab) (af := Fn.a_w_FnWork) rfl Try.func7 (by kernel_rfl) laid (by kernel_rfl) (by kernel_rfl) Try.underlying4 rfl (fun ds h => ?_) hval hW (fun az h => ?_)
  · match ds, h with
    | [d0, d1], _ => rfl
    | [], h => cases h
    | [_], h => cases h
    | _ :: _ :: _ :: _, h => cases h
  · obtain ⟨a, b, rfl⟩ := arg h
    exact Fn.w_FnWork_c (Fn.law a b)
theorem over : Rows.fnWorkRow.holds Try.pinned (OpenSpec.ofChange Rows.fnWorkSpec) :=
  OpenClaim.holds_of_wide 7 Try.f7 rfl rfl rfl rfl rfl rfl rfl ⟨rfl, rfl, rfl, rfl, rfl⟩ rfl rfl rfl rfl rfl (by kernel_rfl) Try.func7 (by kernel_rfl)
    (of_decide_eq_true (by kernel_rfl)) (by unfold Func.isWrapper; first | (rw [if_pos (by decide +kernel)]; kernel_rfl) | (rw [if_neg (by decide +kernel)]; exact ⟨rfl, rfl⟩))
    (fun os started H enc _ => lifted os started H enc)
theorem proved : Rows.FnWorkSaid := over
#print axioms proved
end Go.Proofs.Ytjeihkabobjlbaa.fnWork
namespace Go.Proofs.Ytjeihkabobjlbaa
/-- The row, under a short name, for the claim. -/
theorem fnWork_holds : Rows.FnWorkSaid := fnWork.proved
end Go.Proofs.Ytjeihkabobjlbaa
