/- ProofSize: program and reference tell the same size. -/
import Derived.Test.YtjeihkabobjlbaaPuSys2
set_option linter.unusedVariables false
namespace Go.AI.Fn

theorem size_step (v r q g : Int) : i_openingSize_1_s v v r q g = s_l09Size_1_s v r q g := rfl
theorem i_open_eq (v : Int) (t : Setting) : i_openingSize v t = s_l09Size v t := rfl
theorem s_open_ok {v : Int} (h : v ≤ 1048576) (t : Setting) : ∃ r, s_l09Size v t = some r := by
  unfold s_l09Size
  have key := Loop_inv (step := s_l09Size_1_s v t.Rate t.Queries t.Grind) (fun s => 0 ≤ s.2) (fun s => (v - s.2).toNat) (fun _ => True) ?_ ((0 : Int), (0 : Int)) (by dsimp only; omega)
  · obtain ⟨e, he, _⟩ := key
    rw [he]; exact ⟨_, rfl⟩
  · rintro ⟨a, j⟩ h0
    dsimp only at h0
    simp only [s_l09Size_1_s]
    by_cases c : j < v
    · rw [brd c, wrap_i64 (j + 1) (by omega) (by omega)]
      exact .inl ⟨_, rfl, by dsimp only; omega, by dsimp only; omega⟩
    · rw [brn c]; exact .inr ⟨_, rfl, trivial⟩
theorem size_eq {s : System} (hA : s.A.length ≤ 1048576) (hB : s.B.length ≤ 1048576) (hC : s.C.length ≤ 1048576) (t : Setting) : ∃ r, i_ProofSize s t = some r ∧ s_ProofSize s t = some r := by
  unfold i_ProofSize s_ProofSize
  rw [i_SystemOK_eq (by omega) (by omega) (by omega), s_SystemOK_eq, i_SettingOK_eq, s_SettingOK_eq]
  simp only [Option.bind_some]
  cases hs : sysB s
  · exact ⟨_, rfl, rfl⟩
  cases ht : setB t
  · exact ⟨_, rfl, rfl⟩
  simp only [Bool.not_true, br_false]
  unfold i_proofSize s_l14Size
  obtain ⟨h1, h2, _⟩ := sysB_in hs
  obtain ⟨r, hr⟩ := s_open_ok (v := IntKind.wrap .i64 (s.Cols - 1)) (by rw [wrap_i64 _ (by omega) (by omega)]; omega) t
  rw [i_open_eq, hr]
  exact ⟨_, rfl, rfl⟩
theorem lawSize {s : System} {t : Setting} (hA : s.A.length ≤ 9223372036854775807) (hB : s.B.length ≤ 9223372036854775807) (hC : s.C.length ≤ 9223372036854775807) : w_FnExactProofSize s t = some true := by
  unfold w_FnExactProofSize
  obtain ⟨r, hr, hl⟩ := szS_eq hA hB hC
  rw [hr]
  simp only [Option.bind_some]
  by_cases c : r < 0
  · rw [brd c]
  rw [brn c]
  obtain ⟨lA, lB, lC⟩ := hl (by omega)
  obtain ⟨p, hi, hs⟩ := size_eq lA lB lC t
  rw [toS_eq lA lB lC]
  simp only [Option.bind_some, w_toSetting]
  rw [hi, hs]
  simp only [Option.bind_some]
  rw [brbe rfl, brbe rfl, eqS_eq lA lB lC]; rfl
end Go.AI.Fn
