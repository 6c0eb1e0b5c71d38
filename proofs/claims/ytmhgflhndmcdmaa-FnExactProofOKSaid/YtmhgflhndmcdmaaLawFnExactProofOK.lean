/- FnExactProofOK: the law answers true, for all arguments. No condition. -/
import Derived.Test.YtmhgflhndmcdmaaPv0
import Derived.Test.YtmhgflhndmcdmaaAiArg
import Derived.Test.YtmhgflhndmcdmaaJfFnExactProofOK
import Derived.Test.YtmhgflhndmcdmaaRows
import Derived.WalkKit
import Derived.ProofKit
import Derived.OpenShut
import Derived.SizedLaws
set_option linter.unusedVariables false
namespace Go.Proofs.Ytmhgflhndmcdmaa.fnExactProofOK
open Go.ChangeShapes Go.WideShapes Go.ChangeAt Go.RowKit Go.AI
theorem own : ownKnob Try.prog.godebug = none := by kernel_rfl
theorem laid : laidOutB Try.prog = true := by kernel_rfl
theorem d9 {H : Type} {n : Nat} {d : DataW H} {vs : List V} (h : dataV Try.prog (n + 1) 9 d = some vs) : ∃ x : (List UInt8), vs = eS.enc x ∧ bdS x := gd_str Try.underlying9 h
theorem d3 {H : Type} {n : Nat} {d : DataW H} {vs : List V} (h : dataV Try.prog (n + 1) 3 d = some vs) : ∃ x : Int, vs = eI.enc x ∧ bdI x := gd_int Try.underlying3 h
theorem d42 {H : Type} {n : Nat} {d : DataW H} {vs : List V} (h : dataV Try.prog (n + 2) 42 d = some vs) : ∃ x : Fn.Ext, vs = Fn.eExt.enc x ∧ Fn.bdExt x := by
  obtain ⟨ps, rfl, h0⟩ := dataV_struct Try.underlying42 h
  obtain ⟨_, _, _, _, rfl, g0, h1, rfl⟩ := fieldsV_cons h0
  obtain ⟨_, _, _, _, rfl, g1, h2, rfl⟩ := fieldsV_cons h1
  obtain ⟨rfl, rfl⟩ := fieldsV_nil h2
  obtain ⟨x0, rfl, b0⟩ := d3 g0
  obtain ⟨x1, rfl, b1⟩ := d3 g1
  exact ⟨⟨x0, x1⟩, rfl, ⟨b0, b1⟩⟩
theorem d41 {H : Type} {n : Nat} {d : DataW H} {vs : List V} (h : dataV Try.prog (n + 3) 41 d = some vs) : ∃ x : (List Fn.Ext), vs = (eL Fn.eExt).enc x ∧ (bdL Fn.bdExt) x := gd_slice Fn.eExt Fn.bdExt Try.underlying41 (by kernel_rfl) (fun _ _ h => d42 h) h
theorem d56 {H : Type} {n : Nat} {d : DataW H} {vs : List V} (h : dataV Try.prog (n + 4) 56 d = some vs) : ∃ x : (List (List Fn.Ext)), vs = (eL (eL Fn.eExt)).enc x ∧ (bdL (bdL Fn.bdExt)) x := gd_slice (eL Fn.eExt) (bdL Fn.bdExt) Try.underlying56 (by kernel_rfl) (fun _ _ h => d41 h) h
theorem d57 {H : Type} {n : Nat} {d : DataW H} {vs : List V} (h : dataV Try.prog (n + 2) 57 d = some vs) : ∃ x : (List (List UInt8)), vs = (eL eS).enc x ∧ (bdL bdS) x := gd_slice eS bdS Try.underlying57 (by kernel_rfl) (fun _ _ h => d9 h) h
theorem d182 {H : Type} {n : Nat} {d : DataW H} {vs : List V} (h : dataV Try.prog (n + 3) 182 d = some vs) : ∃ x : (List (List (List UInt8))), vs = (eL (eL eS)).enc x ∧ (bdL (bdL bdS)) x := gd_slice (eL eS) (bdL bdS) Try.underlying182 (by kernel_rfl) (fun _ _ h => d57 h) h
theorem d184 {H : Type} {n : Nat} {d : DataW H} {vs : List V} (h : dataV Try.prog (n + 4) 184 d = some vs) : ∃ x : Fn.Query, vs = Fn.eQuery.enc x ∧ Fn.bdQuery x := by
  obtain ⟨ps, rfl, h0⟩ := dataV_struct Try.underlying184 h
  obtain ⟨_, _, _, _, rfl, g0, h1, rfl⟩ := fieldsV_cons h0
  obtain ⟨_, _, _, _, rfl, g1, h2, rfl⟩ := fieldsV_cons h1
  obtain ⟨rfl, rfl⟩ := fieldsV_nil h2
  obtain ⟨x0, rfl, b0⟩ := d41 g0
  obtain ⟨x1, rfl, b1⟩ := d182 g1
  exact ⟨⟨x0, x1⟩, rfl, ⟨b0, b1⟩⟩
theorem d58 {H : Type} {n : Nat} {d : DataW H} {vs : List V} (h : dataV Try.prog (n + 5) 58 d = some vs) : ∃ x : (List Fn.Query), vs = (eL Fn.eQuery).enc x ∧ (bdL Fn.bdQuery) x := gd_slice Fn.eQuery Fn.bdQuery Try.underlying58 (by kernel_rfl) (fun _ _ h => d184 h) h
theorem d60 {H : Type} {n : Nat} {d : DataW H} {vs : List V} (h : dataV Try.prog (n + 6) 60 d = some vs) : ∃ x : Fn.Opening, vs = Fn.eOpening.enc x ∧ Fn.bdOpening x := by
  obtain ⟨ps, rfl, h0⟩ := dataV_struct Try.underlying60 h
  obtain ⟨_, _, _, _, rfl, g0, h1, rfl⟩ := fieldsV_cons h0
  obtain ⟨_, _, _, _, rfl, g1, h2, rfl⟩ := fieldsV_cons h1
  obtain ⟨_, _, _, _, rfl, g2, h3, rfl⟩ := fieldsV_cons h2
  obtain ⟨_, _, _, _, rfl, g3, h4, rfl⟩ := fieldsV_cons h3
  obtain ⟨_, _, _, _, rfl, g4, h5, rfl⟩ := fieldsV_cons h4
  obtain ⟨rfl, rfl⟩ := fieldsV_nil h5
  obtain ⟨x0, rfl, b0⟩ := d56 g0
  obtain ⟨x1, rfl, b1⟩ := d57 g1
  obtain ⟨x2, rfl, b2⟩ := d42 g2
  obtain ⟨x3, rfl, b3⟩ := d3 g3
  obtain ⟨x4, rfl, b4⟩ := d58 g4
  exact ⟨⟨x0, x1, x2, x3, x4⟩, rfl, ⟨b0, b1, b2, b3, b4⟩⟩
theorem d82 {H : Type} {n : Nat} {d : DataW H} {vs : List V} (h : dataV Try.prog (n + 7) 82 d = some vs) : ∃ x : Fn.Proof, vs = Fn.eProof.enc x ∧ Fn.bdProof x := by
  obtain ⟨ps, rfl, h0⟩ := dataV_struct Try.underlying82 h
  obtain ⟨_, _, _, _, rfl, g0, h1, rfl⟩ := fieldsV_cons h0
  obtain ⟨_, _, _, _, rfl, g1, h2, rfl⟩ := fieldsV_cons h1
  obtain ⟨_, _, _, _, rfl, g2, h3, rfl⟩ := fieldsV_cons h2
  obtain ⟨_, _, _, _, rfl, g3, h4, rfl⟩ := fieldsV_cons h3
  obtain ⟨_, _, _, _, rfl, g4, h5, rfl⟩ := fieldsV_cons h4
  obtain ⟨_, _, _, _, rfl, g5, h6, rfl⟩ := fieldsV_cons h5
  obtain ⟨_, _, _, _, rfl, g6, h7, rfl⟩ := fieldsV_cons h6
  obtain ⟨_, _, _, _, rfl, g7, h8, rfl⟩ := fieldsV_cons h7
  obtain ⟨rfl, rfl⟩ := fieldsV_nil h8
  obtain ⟨x0, rfl, b0⟩ := d9 g0
  obtain ⟨x1, rfl, b1⟩ := d56 g1
  obtain ⟨x2, rfl, b2⟩ := d42 g2
  obtain ⟨x3, rfl, b3⟩ := d42 g3
  obtain ⟨x4, rfl, b4⟩ := d42 g4
  obtain ⟨x5, rfl, b5⟩ := d56 g5
  obtain ⟨x6, rfl, b6⟩ := d42 g6
  obtain ⟨x7, rfl, b7⟩ := d60 g7
  exact ⟨⟨x0, x1, x2, x3, x4, x5, x6, x7⟩, rfl, ⟨b0, b1, b2, b3, b4, b5, b6, b7⟩⟩
theorem d176 {H : Type} {n : Nat} {d : DataW H} {vs : List V} (h : dataV Try.prog (n + 2) 176 d = some vs) : ∃ x : Fn.Entry, vs = Fn.eEntry.enc x ∧ Fn.bdEntry x := by
  obtain ⟨ps, rfl, h0⟩ := dataV_struct Try.underlying176 h
  obtain ⟨_, _, _, _, rfl, g0, h1, rfl⟩ := fieldsV_cons h0
  obtain ⟨_, _, _, _, rfl, g1, h2, rfl⟩ := fieldsV_cons h1
  obtain ⟨_, _, _, _, rfl, g2, h3, rfl⟩ := fieldsV_cons h2
  obtain ⟨rfl, rfl⟩ := fieldsV_nil h3
  obtain ⟨x0, rfl, b0⟩ := d3 g0
  obtain ⟨x1, rfl, b1⟩ := d3 g1
  obtain ⟨x2, rfl, b2⟩ := d3 g2
  exact ⟨⟨x0, x1, x2⟩, rfl, ⟨b0, b1, b2⟩⟩
theorem d38 {H : Type} {n : Nat} {d : DataW H} {vs : List V} (h : dataV Try.prog (n + 3) 38 d = some vs) : ∃ x : (List Fn.Entry), vs = (eL Fn.eEntry).enc x ∧ (bdL Fn.bdEntry) x := gd_slice Fn.eEntry Fn.bdEntry Try.underlying38 (by kernel_rfl) (fun _ _ h => d176 h) h
theorem d40 {H : Type} {n : Nat} {d : DataW H} {vs : List V} (h : dataV Try.prog (n + 4) 40 d = some vs) : ∃ x : Fn.System, vs = Fn.eSystem.enc x ∧ Fn.bdSystem x := by
  obtain ⟨ps, rfl, h0⟩ := dataV_struct Try.underlying40 h
  obtain ⟨_, _, _, _, rfl, g0, h1, rfl⟩ := fieldsV_cons h0
  obtain ⟨_, _, _, _, rfl, g1, h2, rfl⟩ := fieldsV_cons h1
  obtain ⟨_, _, _, _, rfl, g2, h3, rfl⟩ := fieldsV_cons h2
  obtain ⟨_, _, _, _, rfl, g3, h4, rfl⟩ := fieldsV_cons h3
  obtain ⟨_, _, _, _, rfl, g4, h5, rfl⟩ := fieldsV_cons h4
  obtain ⟨_, _, _, _, rfl, g5, h6, rfl⟩ := fieldsV_cons h5
  obtain ⟨rfl, rfl⟩ := fieldsV_nil h6
  obtain ⟨x0, rfl, b0⟩ := d3 g0
  obtain ⟨x1, rfl, b1⟩ := d3 g1
  obtain ⟨x2, rfl, b2⟩ := d3 g2
  obtain ⟨x3, rfl, b3⟩ := d38 g3
  obtain ⟨x4, rfl, b4⟩ := d38 g4
  obtain ⟨x5, rfl, b5⟩ := d38 g5
  exact ⟨⟨x0, x1, x2, x3, x4, x5⟩, rfl, ⟨b0, b1, b2, b3, b4, b5⟩⟩
theorem d62 {H : Type} {n : Nat} {d : DataW H} {vs : List V} (h : dataV Try.prog (n + 2) 62 d = some vs) : ∃ x : Fn.Setting, vs = Fn.eSetting.enc x ∧ Fn.bdSetting x := by
  obtain ⟨ps, rfl, h0⟩ := dataV_struct Try.underlying62 h
  obtain ⟨_, _, _, _, rfl, g0, h1, rfl⟩ := fieldsV_cons h0
  obtain ⟨_, _, _, _, rfl, g1, h2, rfl⟩ := fieldsV_cons h1
  obtain ⟨_, _, _, _, rfl, g2, h3, rfl⟩ := fieldsV_cons h2
  obtain ⟨rfl, rfl⟩ := fieldsV_nil h3
  obtain ⟨x0, rfl, b0⟩ := d3 g0
  obtain ⟨x1, rfl, b1⟩ := d3 g1
  obtain ⟨x2, rfl, b2⟩ := d3 g2
  exact ⟨⟨x0, x1, x2⟩, rfl, ⟨b0, b1, b2⟩⟩
theorem arg {H : Type} {ds : List (DataW H)} {az : List V} (h : argsV Try.prog 7 Try.f7.params.toList ds = some az) : ∃ (a0 : Fn.Proof) (a1 : Fn.System) (a2 : Fn.Setting), az = [.agg (Fn.eProof.enc a0), .agg (Fn.eSystem.enc a1), .agg (Fn.eSetting.enc a2)] ∧ Fn.bdProof a0 ∧ Fn.bdSystem a1 ∧ Fn.bdSetting a2 := by
  obtain ⟨d0, ds0, v0, w0, rfl, g0, k0, rfl⟩ := argsV_cons h
  obtain ⟨d1, ds1, v1, w1, rfl, g1, k1, rfl⟩ := argsV_cons k0
  obtain ⟨d2, ds2, v2, w2, rfl, g2, k2, rfl⟩ := argsV_cons k1
  obtain ⟨rfl, rfl⟩ := argsV_nil k2
  obtain ⟨x0, rfl, b0⟩ := ga_struct Try.underlying82 (fun _ h => d82 (n := 0) h) g0
  obtain ⟨x1, rfl, b1⟩ := ga_struct Try.underlying40 (fun _ h => d40 (n := 3) h) g1
  obtain ⟨x2, rfl, b2⟩ := ga_struct Try.underlying62 (fun _ h => d62 (n := 5) h) g2
  exact ⟨x0, x1, x2, rfl, b0, b1, b2⟩
set_option maxRecDepth 100000 in
theorem lifted (os : Os) (started : os.Started) (H : Type) (enc : TypeId × Value → H) :
    ReturnsInHanded {} Try.checked os 7 .any (Rows.fnExactProofOKSpec.pre6 enc Try.prog Try.f7 Rows.fnExactProofOKRow.domain false) (Rows.fnExactProofOKSpec.post enc Try.prog Try.f7 false true false false) := by
  refine returnsInHanded_of_change_sized (C := Try.checked) own started (by kernel_rfl) Try.func7
    (ChangeSpec.witness6 (enc := enc) (C := Try.checked) false ⟨#[], #[.agg #[.string ⟨#[]⟩, .slice none 0 0, .int .i64 0, .int .i64 0, .int .i64 0, .int .i64 0, .int .i64 0, .int .i64 0, .slice none 0 0, .int .i64 0, .int .i64 0, .slice none 0 0, .slice none 0 0, .int .i64 0, .int .i64 0, .int .i64 0, .slice none 0 0], .agg #[.int .i64 0, .int .i64 0, .int .i64 0, .slice none 0 0, .slice none 0 0, .slice none 0 0], .agg #[.int .i64 0, .int .i64 0, .int .i64 0]], []⟩ 8 (by kernel_rfl) (by kernel_rfl) (by kernel_rfl) (by kernel_rfl)) ?_
  intro W base args ds gs before hval hW hcnd hsz _
  refine law_calls (P := Try.prog) (ow := Fn.ow) (n := 7) Fn.tabOK (T := Fn.tab) (af := Fn.a_w_FnExactProofOK) rfl Try.func7 (by kernel_rfl) laid (by kernel_rfl) (by kernel_rfl) Try.underlying4 rfl (fun ds h => ?_) hval hW (fun az h => ?_)
  · match ds, h with
    | [e0, e1, e2], _ => rfl
    | [], h => cases h
    | [_], h => cases h
    | [_, _], h => cases h
    | _ :: _ :: _ :: _ :: _, h => cases h
  · obtain ⟨a0, a1, a2, rfl, c0, c1, c2⟩ := arg h
    exact Fn.w_FnExactProofOK_c (Fn.law_FnExactProofOK a0 a1 a2 c0 c1 c2)
theorem over : Rows.fnExactProofOKRow.holds Try.pinned (OpenSpec.ofChange Rows.fnExactProofOKSpec) :=
  OpenClaim.holds_of_wide 7 Try.f7 rfl rfl rfl rfl rfl rfl rfl ⟨rfl, rfl, rfl, rfl, rfl⟩ rfl rfl rfl rfl rfl named Try.func7 facts
    (of_decide_eq_true (by kernel_rfl)) (by unfold Func.isWrapper; first | (rw [if_pos (by decide +kernel)]; kernel_rfl) | (rw [if_neg (by decide +kernel)]; exact ⟨rfl, rfl⟩))
    (fun os started H enc _ => lifted os started H enc)
theorem proved : Rows.FnExactProofOKSaid := over
#print axioms proved
end Go.Proofs.Ytmhgflhndmcdmaa.fnExactProofOK
namespace Go.Proofs.Ytmhgflhndmcdmaa
/-- The row, under a short name, for the claim. -/
theorem fnExactProofOK_holds : Rows.FnExactProofOKSaid := fnExactProofOK.proved
end Go.Proofs.Ytmhgflhndmcdmaa
