/- FnExtBytes: the law answers true for all texts. No condition. -/
import Derived.Test.YthjmakpfalhadaaRows
import Derived.Test.YthjmakpfalhadaaPuZ
import Derived.Test.YthjmakpfalhadaaAiTop3
import Derived.WalkKit
import Derived.ProofKit
import Derived.OpenShut
import Derived.SizedLaws
set_option linter.unusedVariables false
namespace Go.Proofs.Ythjmakpfalhadaa.fnExtBytes
open Go.ChangeShapes Go.WideShapes Go.ChangeAt Go.RowKit Go.AI
theorem own : ownKnob Try.prog.godebug = none := by kernel_rfl
theorem laid : laidOutB Try.prog = true := by kernel_rfl
theorem bytes {H : Type} {d : DataW H} {v : V} (h : argV Try.prog 4 22 d = some v) : ∃ l : List UInt8, v = sl eU8 l := by
  obtain ⟨l, h, _⟩ := argV_slice eU8 Try.underlying22 (by kernel_rfl) (fun d vs h => dataV_u8 Try.underlying5 d vs h) h
  exact ⟨l, h⟩
theorem arg {H : Type} {ds : List (DataW H)} {az : List V} (h : argsV Try.prog 4 Try.f5.params.toList ds = some az) : ∃ a b : List UInt8, az = [sl eU8 a, sl eU8 b] := by
  obtain ⟨d, ds', a, b, rfl, h1, h2, rfl⟩ := argsV_cons h
  obtain ⟨d2, ds2, a2, b2, rfl, k1, k2, rfl⟩ := argsV_cons h2
  obtain ⟨rfl, rfl⟩ := argsV_nil k2
  obtain ⟨l, rfl⟩ := bytes h1
  obtain ⟨m, rfl⟩ := bytes k1
  exact ⟨l, m, rfl⟩
set_option maxRecDepth 100000 in
theorem lifted (os : Os) (started : os.Started) (H : Type) (enc : TypeId × Value → H) :
    ReturnsInHanded {} Try.checked os 5 .any (Rows.fnExtBytesSpec.pre6 enc Try.prog Try.f5 Rows.fnExtBytesRow.domain false) (Rows.fnExtBytesSpec.post enc Try.prog Try.f5 false true false false) := by
  refine returnsInHanded_of_change_sized (C := Try.checked) own started (by kernel_rfl) Try.func5
    (ChangeSpec.witness6 (enc := enc) (C := Try.checked) false ⟨#[], #[.slice none 0 0, .slice none 0 0], []⟩ 8 (by kernel_rfl) (by kernel_rfl) (by kernel_rfl) (by kernel_rfl)) ?_
  intro W base args ds gs before hval hW hcnd hsz _
  refine law_calls (P := Try.prog) (ow := Fn.ow) (n := 4) Fn.tabOK (T := Fn.tab) (af := Fn.a_w_FnExtBytes) rfl Try.func5 (by kernel_rfl) laid (by kernel_rfl) (by kernel_rfl) Try.underlying4 rfl (fun ds h => ?_) hval hW (fun az h => ?_)
  · match ds, h with
    | [d1, d2], _ => rfl
    | [], h => cases h
    | [_], h => cases h
    | _ :: _ :: _ :: _, h => cases h
  · obtain ⟨a, b, rfl⟩ := arg h
    exact Fn.w_FnExtBytes_c (Fn.law a b)
theorem over : Rows.fnExtBytesRow.holds Try.pinned (OpenSpec.ofChange Rows.fnExtBytesSpec) :=
  OpenClaim.holds_of_wide 5 Try.f5 rfl rfl rfl rfl rfl rfl rfl ⟨rfl, rfl, rfl, rfl, rfl⟩ rfl rfl rfl rfl rfl (by kernel_rfl) Try.func5 (by kernel_rfl)
    (of_decide_eq_true (by kernel_rfl)) (by unfold Func.isWrapper; first | (rw [if_pos (by decide +kernel)]; kernel_rfl) | (rw [if_neg (by decide +kernel)]; exact ⟨rfl, rfl⟩))
    (fun os started H enc _ => lifted os started H enc)
theorem proved : Rows.FnExtBytesSaid := over
#print axioms proved
end Go.Proofs.Ythjmakpfalhadaa.fnExtBytes
namespace Go.Proofs.Ythjmakpfalhadaa
/-- The row, under a short name, for the claim. -/
theorem fnExtBytes_holds : Rows.FnExtBytesSaid := fnExtBytes.proved
end Go.Proofs.Ythjmakpfalhadaa
