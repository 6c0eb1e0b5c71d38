/- FnExactWorkOf: the program's WorkOf answers as the reference's, for all systems and settings. No condition. -/
import Derived.Test.YtjeihkabobjlbaaRows
import Derived.Test.YtjeihkabobjlbaaPuWork
import Derived.Test.YtjeihkabobjlbaaAiTop3
import Derived.WalkKit
import Derived.ProofKit
import Derived.OpenShut
import Derived.SizedLaws
set_option linter.unusedVariables false
namespace Go.Proofs.Ytjeihkabobjlbaa.fnExactWorkOf
open Go.ChangeShapes Go.WideShapes Go.ChangeAt Go.RowKit Go.AI
theorem own : ownKnob Try.prog.godebug = none := by kernel_rfl
theorem laid : laidOutB Try.prog = true := by kernel_rfl
theorem entry {H : Type} (d : DataW H) (vs : List V) (h : dataV Try.prog 2 77 d = some vs) : ∃ x : Fn.Entry, vs = Fn.eEntry.enc x := by
  obtain ⟨ps, rfl, h4⟩ := dataV_struct Try.underlying77 h
  obtain ⟨_, _, _, _, rfl, g1, h5, rfl⟩ := fieldsV_cons h4
  obtain ⟨_, _, _, _, rfl, g2, h6, rfl⟩ := fieldsV_cons h5
  obtain ⟨_, _, _, _, rfl, g3, h7, rfl⟩ := fieldsV_cons h6
  obtain ⟨rfl, rfl⟩ := fieldsV_nil h7
  obtain ⟨r, rfl, _, _⟩ := dataV_int Try.underlying3 g1
  obtain ⟨q, rfl, _, _⟩ := dataV_int Try.underlying3 g2
  obtain ⟨g, rfl, _, _⟩ := dataV_int Try.underlying3 g3
  exact ⟨⟨r, q, g⟩, rfl⟩
theorem entries {H : Type} {d : DataW H} {vs : List V} (h : dataV Try.prog 3 45 d = some vs) : ∃ l : List Fn.Entry, vs = [sl Fn.eEntry l] ∧ l.length ≤ 9223372036854775807 := by
  obtain ⟨l, h1, h2⟩ := dataV_slice Fn.eEntry Try.underlying45 (by kernel_rfl) (fun d vs h => entry d vs h) h
  exact ⟨l, h1, Nat.le_trans h2 (by decide)⟩
theorem system {H : Type} {d : DataW H} {v : V} (h : argV Try.prog 4 47 d = some v) : ∃ s : Fn.System, v = .agg [I s.Rows, I s.Cols, I s.Publics, sl Fn.eEntry s.A, sl Fn.eEntry s.B, sl Fn.eEntry s.C] ∧ s.A.length ≤ 9223372036854775807 ∧ s.B.length ≤ 9223372036854775807 ∧ s.C.length ≤ 9223372036854775807 := by
  obtain ⟨vs, rfl, h3⟩ := argV_struct Try.underlying47 h
  obtain ⟨ps, rfl, h4⟩ := dataV_struct Try.underlying47 h3
  obtain ⟨_, _, _, _, rfl, g1, h5, rfl⟩ := fieldsV_cons h4
  obtain ⟨_, _, _, _, rfl, g2, h6, rfl⟩ := fieldsV_cons h5
  obtain ⟨_, _, _, _, rfl, g3, h7, rfl⟩ := fieldsV_cons h6
  obtain ⟨_, _, _, _, rfl, g4, h8, rfl⟩ := fieldsV_cons h7
  obtain ⟨_, _, _, _, rfl, g5, h9, rfl⟩ := fieldsV_cons h8
  obtain ⟨_, _, _, _, rfl, g6, h10, rfl⟩ := fieldsV_cons h9
  obtain ⟨rfl, rfl⟩ := fieldsV_nil h10
  obtain ⟨r, rfl, _, _⟩ := dataV_int Try.underlying3 g1
  obtain ⟨q, rfl, _, _⟩ := dataV_int Try.underlying3 g2
  obtain ⟨g, rfl, _, _⟩ := dataV_int Try.underlying3 g3
  obtain ⟨a, rfl, a1⟩ := entries g4
  obtain ⟨b, rfl, b1⟩ := entries g5
  obtain ⟨c, rfl, c1⟩ := entries g6
  exact ⟨⟨r, q, g, a, b, c⟩, rfl, a1, b1, c1⟩
theorem setting {H : Type} {d : DataW H} {v : V} (h : argV Try.prog 4 23 d = some v) : ∃ t : Fn.Setting, v = .agg [I t.Rate, I t.Queries, I t.Grind] := by
  obtain ⟨vs, rfl, h3⟩ := argV_struct Try.underlying23 h
  obtain ⟨ps, rfl, h4⟩ := dataV_struct Try.underlying23 h3
  obtain ⟨_, _, _, _, rfl, g1, h5, rfl⟩ := fieldsV_cons h4
  obtain ⟨_, _, _, _, rfl, g2, h6, rfl⟩ := fieldsV_cons h5
  obtain ⟨_, _, _, _, rfl, g3, h7, rfl⟩ := fieldsV_cons h6
  obtain ⟨rfl, rfl⟩ := fieldsV_nil h7
  obtain ⟨r, rfl, _, _⟩ := dataV_int Try.underlying3 g1
  obtain ⟨q, rfl, _, _⟩ := dataV_int Try.underlying3 g2
  obtain ⟨g, rfl, _, _⟩ := dataV_int Try.underlying3 g3
  exact ⟨⟨r, q, g⟩, rfl⟩
theorem arg {H : Type} {ds : List (DataW H)} {az : List V} (h : argsV Try.prog 4 Try.f9.params.toList ds = some az) : ∃ (s : Fn.System) (t : Fn.Setting), az = [.agg [I s.Rows, I s.Cols, I s.Publics, sl Fn.eEntry s.A, sl Fn.eEntry s.B, sl Fn.eEntry s.C], .agg [I t.Rate, I t.Queries, I t.Grind]] ∧ s.A.length ≤ 9223372036854775807 ∧ s.B.length ≤ 9223372036854775807 ∧ s.C.length ≤ 9223372036854775807 := by
  obtain ⟨d, ds', a, b, rfl, h1, h2, rfl⟩ := argsV_cons h
  obtain ⟨d2, ds2, a2, b2, rfl, k1, k2, rfl⟩ := argsV_cons h2
  obtain ⟨rfl, rfl⟩ := argsV_nil k2
  obtain ⟨s, rfl, e⟩ := system h1
  obtain ⟨t, rfl⟩ := setting k1
  exact ⟨s, t, rfl, e⟩
set_option maxRecDepth 100000 in
theorem lifted (os : Os) (started : os.Started) (H : Type) (enc : TypeId × Value → H) :
    ReturnsInHanded {} Try.checked os 9 .any (Rows.fnExactWorkOfSpec.pre6 enc Try.prog Try.f9 Rows.fnExactWorkOfRow.domain false) (Rows.fnExactWorkOfSpec.post enc Try.prog Try.f9 false true false false) := by
  refine returnsInHanded_of_change_sized (C := Try.checked) own started (by kernel_rfl) Try.func9
    (ChangeSpec.witness6 (enc := enc) (C := Try.checked) false ⟨#[], #[.agg #[.int .i64 0, .int .i64 0, .int .i64 0, .slice none 0 0, .slice none 0 0, .slice none 0 0], .agg #[.int .i64 0, .int .i64 0, .int .i64 0]], []⟩ 8 (by kernel_rfl) (by kernel_rfl) (by kernel_rfl) (by kernel_rfl)) ?_
  intro W base args ds gs before hval hW hcnd hsz _
  refine law_calls (P := Try.prog) (ow := Fn.ow) (n := 4) Fn.tabOK (T := Fn.tab) (af := Fn.a_w_FnExactWorkOf) rfl Try.func9 (by kernel_rfl) laid (by kernel_rfl) (by kernel_rfl) Try.underlying4 rfl (fun ds h => ?_) hval hW (fun az h => ?_)
  · match ds, h with
    | [d1, d2], _ => rfl
    | [], h => cases h
    | [_], h => cases h
    | _ :: _ :: _ :: _, h => cases h
  · obtain ⟨s, t, rfl, hA, hB, hC⟩ := arg h
    exact Fn.w_FnExactWorkOf_c (Fn.lawWork hA hB hC)
theorem over : Rows.fnExactWorkOfRow.holds Try.pinned (OpenSpec.ofChange Rows.fnExactWorkOfSpec) :=
  OpenClaim.holds_of_wide 9 Try.f9 rfl rfl rfl rfl rfl rfl rfl ⟨rfl, rfl, rfl, rfl, rfl⟩ rfl rfl rfl rfl rfl (by kernel_rfl) Try.func9 (by kernel_rfl)
    (of_decide_eq_true (by kernel_rfl)) (by unfold Func.isWrapper; first | (rw [if_pos (by decide +kernel)]; kernel_rfl) | (rw [if_neg (by decide +kernel)]; exact ⟨rfl, rfl⟩))
    (fun os started H enc _ => lifted os started H enc)
theorem proved : Rows.FnExactWorkOfSaid := over
#print axioms proved
end Go.Proofs.Ytjeihkabobjlbaa.fnExactWorkOf
namespace Go.Proofs.Ytjeihkabobjlbaa
/-- The row, under a short name, for the claim. -/
theorem fnExactWorkOf_holds : Rows.FnExactWorkOfSaid := fnExactWorkOf.proved
end Go.Proofs.Ytjeihkabobjlbaa
