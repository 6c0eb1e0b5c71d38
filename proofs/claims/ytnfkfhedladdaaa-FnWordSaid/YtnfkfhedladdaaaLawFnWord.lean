/- FnWord: the law answers true, for all arguments. No condition. -/
import Derived.Test.YtnfkfhedladdaaaPv0
import Derived.Test.YtnfkfhedladdaaaAiArg
import Derived.Test.YtnfkfhedladdaaaJfFnWord
import Derived.Test.YtnfkfhedladdaaaRows
import Derived.WalkKit
import Derived.ProofKit
import Derived.OpenShut
import Derived.SizedLaws
set_option linter.unusedVariables false
namespace Go.Proofs.Ytnfkfhedladdaaa.fnWord
open Go.ChangeShapes Go.WideShapes Go.ChangeAt Go.RowKit Go.AI
theorem own : ownKnob Try.prog.godebug = none := by kernel_rfl
theorem laid : laidOutB Try.prog = true := by kernel_rfl
theorem d5 {H : Type} {n : Nat} {d : DataW H} {vs : List V} (h : dataV Try.prog (n + 1) 5 d = some vs) : ∃ x : UInt8, vs = eU8.enc x ∧ (bdT (α := UInt8)) x := gd_u8 Try.underlying5 h
theorem d22 {H : Type} {n : Nat} {d : DataW H} {vs : List V} (h : dataV Try.prog (n + 2) 22 d = some vs) : ∃ x : (List UInt8), vs = (eL eU8).enc x ∧ (bdL (bdT (α := UInt8))) x := gd_slice eU8 (bdT (α := UInt8)) Try.underlying22 (by kernel_rfl) (fun _ _ h => d5 h) h
theorem arg {H : Type} {ds : List (DataW H)} {az : List V} (h : argsV Try.prog 2 Try.f4.params.toList ds = some az) : ∃ (a0 : (List UInt8)) (a1 : (List UInt8)), az = [sl eU8 a0, sl eU8 a1] ∧ (bdL (bdT (α := UInt8))) a0 ∧ (bdL (bdT (α := UInt8))) a1 := by
  obtain ⟨d0, ds0, v0, w0, rfl, g0, k0, rfl⟩ := argsV_cons h
  obtain ⟨d1, ds1, v1, w1, rfl, g1, k1, rfl⟩ := argsV_cons k0
  obtain ⟨rfl, rfl⟩ := argsV_nil k1
  obtain ⟨x0, rfl, b0⟩ := ga_one (c := sl eU8) (fun _ => rfl) Try.underlying22 (by intro fs h; cases h) (by intro k e h; cases h) (fun _ h => d22 (n := 0) h) g0
  obtain ⟨x1, rfl, b1⟩ := ga_one (c := sl eU8) (fun _ => rfl) Try.underlying22 (by intro fs h; cases h) (by intro k e h; cases h) (fun _ h => d22 (n := 0) h) g1
  exact ⟨x0, x1, rfl, b0, b1⟩
set_option maxRecDepth 100000 in
theorem lifted (os : Os) (started : os.Started) (H : Type) (enc : TypeId × Value → H) :
    ReturnsInHanded {} Try.checked os 4 .any (Rows.fnWordSpec.pre6 enc Try.prog Try.f4 Rows.fnWordRow.domain false) (Rows.fnWordSpec.post enc Try.prog Try.f4 false true false false) := by
  refine returnsInHanded_of_change_sized (C := Try.checked) own started (by kernel_rfl) Try.func4
    (ChangeSpec.witness6 (enc := enc) (C := Try.checked) false ⟨#[], #[.slice none 0 0, .slice none 0 0], []⟩ 8 (by kernel_rfl) (by kernel_rfl) (by kernel_rfl) (by kernel_rfl)) ?_
  intro W base args ds gs before hval hW hcnd hsz _
  refine law_calls (P := Try.prog) (ow := Fn.ow) (n := 2) Fn.tabOK (T := Fn.tab) (af := Fn.a_w_FnWord) rfl Try.func4 (by kernel_rfl) laid (by kernel_rfl) (by kernel_rfl) Try.underlying4 rfl (fun ds h => ?_) hval hW (fun az h => ?_)
  · match ds, h with
    | [e0, e1], _ => rfl
    | [], h => cases h
    | [_], h => cases h
    | _ :: _ :: _ :: _, h => cases h
  · obtain ⟨a0, a1, rfl, c0, c1⟩ := arg h
    exact Fn.w_FnWord_c (Fn.law_FnWord a0 a1 c0 c1)
theorem over : Rows.fnWordRow.holds Try.pinned (OpenSpec.ofChange Rows.fnWordSpec) :=
  OpenClaim.holds_of_wide 4 Try.f4 rfl rfl rfl rfl rfl rfl rfl ⟨rfl, rfl, rfl, rfl, rfl⟩ rfl rfl rfl rfl rfl named Try.func4 facts
    (of_decide_eq_true (by kernel_rfl)) (by unfold Func.isWrapper; first | (rw [if_pos (by decide +kernel)]; kernel_rfl) | (rw [if_neg (by decide +kernel)]; exact ⟨rfl, rfl⟩))
    (fun os started H enc _ => lifted os started H enc)
theorem proved : Rows.FnWordSaid := over
#print axioms proved
end Go.Proofs.Ytnfkfhedladdaaa.fnWord
namespace Go.Proofs.Ytnfkfhedladdaaa
/-- The row, under a short name, for the claim. -/
theorem fnWord_holds : Rows.FnWordSaid := fnWord.proved
end Go.Proofs.Ytnfkfhedladdaaa
