/- FnExactPublicAt: the law answers true, for all arguments. No condition. -/
import Derived.Test.YthjmakpfalhadaaPv0
import Derived.Test.YthjmakpfalhadaaAiArg
import Derived.Test.YthjmakpfalhadaaJfFnExactPublicAt
import Derived.Test.YthjmakpfalhadaaRows
import Derived.WalkKit
import Derived.ProofKit
import Derived.OpenShut
import Derived.SizedLaws
set_option linter.unusedVariables false
namespace Go.Proofs.Ythjmakpfalhadaa.fnExactPublicAt
open Go.ChangeShapes Go.WideShapes Go.ChangeAt Go.RowKit Go.AI
theorem own : ownKnob Try.prog.godebug = none := by kernel_rfl
theorem laid : laidOutB Try.prog = true := by kernel_rfl
theorem d3 {H : Type} {n : Nat} {d : DataW H} {vs : List V} (h : dataV Try.prog (n + 1) 3 d = some vs) : ∃ x : Int, vs = eI.enc x ∧ bdI x := gd_int Try.underlying3 h
theorem d225 {H : Type} {n : Nat} {d : DataW H} {vs : List V} (h : dataV Try.prog (n + 2) 225 d = some vs) : ∃ x : Fn.Entry, vs = Fn.eEntry.enc x ∧ Fn.bdEntry x := by
  obtain ⟨ps, rfl, h0⟩ := dataV_struct Try.underlying225 h
  obtain ⟨_, _, _, _, rfl, g0, h1, rfl⟩ := fieldsV_cons h0
  obtain ⟨_, _, _, _, rfl, g1, h2, rfl⟩ := fieldsV_cons h1
  obtain ⟨_, _, _, _, rfl, g2, h3, rfl⟩ := fieldsV_cons h2
  obtain ⟨rfl, rfl⟩ := fieldsV_nil h3
  obtain ⟨x0, rfl, b0⟩ := d3 g0
  obtain ⟨x1, rfl, b1⟩ := d3 g1
  obtain ⟨x2, rfl, b2⟩ := d3 g2
  exact ⟨⟨x0, x1, x2⟩, rfl, ⟨b0, b1, b2⟩⟩
theorem d64 {H : Type} {n : Nat} {d : DataW H} {vs : List V} (h : dataV Try.prog (n + 3) 64 d = some vs) : ∃ x : (List Fn.Entry), vs = (eL Fn.eEntry).enc x ∧ (bdL Fn.bdEntry) x := gd_slice Fn.eEntry Fn.bdEntry Try.underlying64 (by kernel_rfl) (fun _ _ h => d225 h) h
theorem d66 {H : Type} {n : Nat} {d : DataW H} {vs : List V} (h : dataV Try.prog (n + 4) 66 d = some vs) : ∃ x : Fn.System, vs = Fn.eSystem.enc x ∧ Fn.bdSystem x := by
  obtain ⟨ps, rfl, h0⟩ := dataV_struct Try.underlying66 h
  obtain ⟨_, _, _, _, rfl, g0, h1, rfl⟩ := fieldsV_cons h0
  obtain ⟨_, _, _, _, rfl, g1, h2, rfl⟩ := fieldsV_cons h1
  obtain ⟨_, _, _, _, rfl, g2, h3, rfl⟩ := fieldsV_cons h2
  obtain ⟨_, _, _, _, rfl, g3, h4, rfl⟩ := fieldsV_cons h3
  obtain ⟨_, _, _, _, rfl, g4, h5, rfl⟩ := fieldsV_cons h4
  obtain ⟨_, _, _, _, rfl, g5, h6, rfl⟩ := fieldsV_cons h5
  obtain ⟨rfl, rfl⟩ := fieldsV_nil h6
  obtain ⟨x0, rfl, b0⟩ := d3 g0
  obtain ⟨x1, rfl, b1⟩ := d3 g1
  obtain ⟨x2, rfl, b2⟩ := d3 g2
  obtain ⟨x3, rfl, b3⟩ := d64 g3
  obtain ⟨x4, rfl, b4⟩ := d64 g4
  obtain ⟨x5, rfl, b5⟩ := d64 g5
  exact ⟨⟨x0, x1, x2, x3, x4, x5⟩, rfl, ⟨b0, b1, b2, b3, b4, b5⟩⟩
theorem d27 {H : Type} {n : Nat} {d : DataW H} {vs : List V} (h : dataV Try.prog (n + 2) 27 d = some vs) : ∃ x : (List Int), vs = (eL eI).enc x ∧ (bdL bdI) x := gd_slice eI bdI Try.underlying27 (by kernel_rfl) (fun _ _ h => d3 h) h
theorem d68 {H : Type} {n : Nat} {d : DataW H} {vs : List V} (h : dataV Try.prog (n + 2) 68 d = some vs) : ∃ x : Fn.Ext, vs = Fn.eExt.enc x ∧ Fn.bdExt x := by
  obtain ⟨ps, rfl, h0⟩ := dataV_struct Try.underlying68 h
  obtain ⟨_, _, _, _, rfl, g0, h1, rfl⟩ := fieldsV_cons h0
  obtain ⟨_, _, _, _, rfl, g1, h2, rfl⟩ := fieldsV_cons h1
  obtain ⟨rfl, rfl⟩ := fieldsV_nil h2
  obtain ⟨x0, rfl, b0⟩ := d3 g0
  obtain ⟨x1, rfl, b1⟩ := d3 g1
  exact ⟨⟨x0, x1⟩, rfl, ⟨b0, b1⟩⟩
theorem d67 {H : Type} {n : Nat} {d : DataW H} {vs : List V} (h : dataV Try.prog (n + 3) 67 d = some vs) : ∃ x : (List Fn.Ext), vs = (eL Fn.eExt).enc x ∧ (bdL Fn.bdExt) x := gd_slice Fn.eExt Fn.bdExt Try.underlying67 (by kernel_rfl) (fun _ _ h => d68 h) h
theorem arg {H : Type} {ds : List (DataW H)} {az : List V} (h : argsV Try.prog 4 Try.f10.params.toList ds = some az) : ∃ (a0 : Fn.System) (a1 : (List Int)) (a2 : (List Fn.Ext)), az = [.agg (Fn.eSystem.enc a0), sl eI a1, sl Fn.eExt a2] ∧ Fn.bdSystem a0 ∧ (bdL bdI) a1 ∧ (bdL Fn.bdExt) a2 := by
  obtain ⟨d0, ds0, v0, w0, rfl, g0, k0, rfl⟩ := argsV_cons h
  obtain ⟨d1, ds1, v1, w1, rfl, g1, k1, rfl⟩ := argsV_cons k0
  obtain ⟨d2, ds2, v2, w2, rfl, g2, k2, rfl⟩ := argsV_cons k1
  obtain ⟨rfl, rfl⟩ := argsV_nil k2
  obtain ⟨x0, rfl, b0⟩ := ga_struct Try.underlying66 (fun _ h => d66 (n := 0) h) g0
  obtain ⟨x1, rfl, b1⟩ := ga_one (c := sl eI) (fun _ => rfl) Try.underlying27 (by intro fs h; cases h) (by intro k e h; cases h) (fun _ h => d27 (n := 2) h) g1
  obtain ⟨x2, rfl, b2⟩ := ga_one (c := sl Fn.eExt) (fun _ => rfl) Try.underlying67 (by intro fs h; cases h) (by intro k e h; cases h) (fun _ h => d67 (n := 1) h) g2
  exact ⟨x0, x1, x2, rfl, b0, b1, b2⟩
set_option maxRecDepth 100000 in
theorem lifted (os : Os) (started : os.Started) (H : Type) (enc : TypeId × Value → H) :
    ReturnsInHanded {} Try.checked os 10 .any (Rows.fnExactPublicAtSpec.pre6 enc Try.prog Try.f10 Rows.fnExactPublicAtRow.domain false) (Rows.fnExactPublicAtSpec.post enc Try.prog Try.f10 false true false false) := by
  refine returnsInHanded_of_change_sized (C := Try.checked) own started (by kernel_rfl) Try.func10
    (ChangeSpec.witness6 (enc := enc) (C := Try.checked) false ⟨#[], #[.agg #[.int .i64 0, .int .i64 0, .int .i64 0, .slice none 0 0, .slice none 0 0, .slice none 0 0], .slice none 0 0, .slice none 0 0], []⟩ 8 (by kernel_rfl) (by kernel_rfl) (by kernel_rfl) (by kernel_rfl)) ?_
  intro W base args ds gs before hval hW hcnd hsz _
  refine law_calls (P := Try.prog) (ow := Fn.ow) (n := 4) Fn.tabOK (T := Fn.tab) (af := Fn.a_w_FnExactPublicAt) rfl Try.func10 (by kernel_rfl) laid (by kernel_rfl) (by kernel_rfl) Try.underlying4 rfl (fun ds h => ?_) hval hW (fun az h => ?_)
  · match ds, h with
    | [e0, e1, e2], _ => rfl
    | [], h => cases h
    | [_], h => cases h
    | [_, _], h => cases h
    | _ :: _ :: _ :: _ :: _, h => cases h
  · obtain ⟨a0, a1, a2, rfl, c0, c1, c2⟩ := arg h
    exact Fn.w_FnExactPublicAt_c (Fn.law_FnExactPublicAt a0 a1 a2 c0 c1 c2)
theorem over : Rows.fnExactPublicAtRow.holds Try.pinned (OpenSpec.ofChange Rows.fnExactPublicAtSpec) :=
  OpenClaim.holds_of_wide 10 Try.f10 rfl rfl rfl rfl rfl rfl rfl ⟨rfl, rfl, rfl, rfl, rfl⟩ rfl rfl rfl rfl rfl named Try.func10 facts
    (of_decide_eq_true (by kernel_rfl)) (by unfold Func.isWrapper; first | (rw [if_pos (by decide +kernel)]; kernel_rfl) | (rw [if_neg (by decide +kernel)]; exact ⟨rfl, rfl⟩))
    (fun os started H enc _ => lifted os started H enc)
theorem proved : Rows.FnExactPublicAtSaid := over
#print axioms proved
end Go.Proofs.Ythjmakpfalhadaa.fnExactPublicAt
namespace Go.Proofs.Ythjmakpfalhadaa
/-- The row, under a short name, for the claim. -/
theorem fnExactPublicAt_holds : Rows.FnExactPublicAtSaid := fnExactPublicAt.proved
end Go.Proofs.Ythjmakpfalhadaa
