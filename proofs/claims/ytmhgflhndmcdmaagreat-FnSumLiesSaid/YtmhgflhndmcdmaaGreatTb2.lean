/- The table is right. -/
import Derived.Test.YtmhgflhndmcdmaaGreatTb1
set_option maxRecDepth 100000
namespace Go.AI.Fn
def AllOk : List (Nat × FDef) → Prop
  | [] => True
  | p :: r => ((∃ a, p.2 = .code a ∧ OkF p.1 a) ∨ (∃ g, p.2 = .ext g ∧ ExtOK Proofs.Tryz.prog p.1 g)) ∧ AllOk r
theorem allOk : AllOk tabL := ⟨.inl ⟨_, rfl, ok_w_FnSumLies⟩, .inl ⟨_, rfl, ok_s_SourceOf⟩, .inl ⟨_, rfl, ok_w_at⟩, .inl ⟨_, rfl, ok_s_TablesOf⟩, .inl ⟨_, rfl, ok_i_SumOf⟩, .inl ⟨_, rfl, ok_i_ExtAdd⟩, .inl ⟨_, rfl, ok_i_SumProve⟩, .inl ⟨_, rfl, ok_i_SumVerify⟩, .inl ⟨_, rfl, ok_s_SumVerify⟩, .inl ⟨_, rfl, ok_s_l00Source⟩, .inl ⟨_, rfl, ok_s_l00Src_source⟩, .inl ⟨_, rfl, ok_i_Source_copied⟩, .inl ⟨_, rfl, ok_i_Source_absorb⟩, .inl ⟨_, rfl, ok_s_l05Own⟩, .inl ⟨_, rfl, ok_s_l00Src_exts⟩, .inl ⟨_, rfl, ok_i_are_i_Ext⟩, .inl ⟨_, rfl, ok_i_ExtOK⟩, .inl ⟨_, rfl, ok_i_TableOK⟩, .inl ⟨_, rfl, ok_i_in⟩, .inl ⟨_, rfl, ok_i_Ext_plus⟩, .inl ⟨_, rfl, ok_i_Ext_times⟩, .inl ⟨_, rfl, ok_i_Ext_scaled⟩, .inl ⟨_, rfl, ok_s_l00Src_tables⟩, .inl ⟨_, rfl, ok_i_tablesCode⟩, .inl ⟨_, rfl, ok_i_sumOf⟩, .inl ⟨_, rfl, ok_i_extTwo⟩, .inl ⟨_, rfl, ok_i_SourceOK⟩, .inl ⟨_, rfl, ok_i_Source_left⟩, .inl ⟨_, rfl, ok_i_Source_proveSum⟩, .inl ⟨_, rfl, ok_i_nothing⟩, .inl ⟨_, rfl, ok_slices_ContainsFunc_LLi_Ext_Li_Ext⟩, .inl ⟨_, rfl, ok_i_SumVerify_1⟩, .inl ⟨_, rfl, ok_i_degreeOf⟩, .inl ⟨_, rfl, ok_i_Source_verifySum⟩, .inl ⟨_, rfl, ok_i_nowhere⟩, .inl ⟨_, rfl, ok_s_l08Rounds⟩, .inl ⟨_, rfl, ok_s_ExtOK⟩, .inl ⟨_, rfl, ok_s_SourceOK⟩, .inl ⟨_, rfl, ok_s_l08Kind⟩, .inl ⟨_, rfl, ok_s_l01In⟩, .inl ⟨_, rfl, ok_s_l05Spent⟩, .inl ⟨_, rfl, ok_s_l08Verify⟩, .inl ⟨_, rfl, ok_i_tablesOf⟩, .inl ⟨_, rfl, ok_i_combine⟩, .inl ⟨_, rfl, ok_i_roundOf⟩, .inl ⟨_, rfl, ok_s_l00Src_next⟩, .inl ⟨_, rfl, ok_s_l00Src_field⟩, .inl ⟨_, rfl, ok_s_l05New⟩, .inl ⟨_, rfl, ok_s_l00Src_pick⟩, .inl ⟨_, rfl, ok_s_l00Src_chance⟩, .inl ⟨_, rfl, ok_s_l05Absorb⟩, .inl ⟨_, rfl, ok_s_l05Draw⟩, .inl ⟨_, rfl, ok_i_FieldOK⟩, .inr ⟨_, rfl, cloneO_ok ok_slices_Clone_Li_Ext_i_Ext slices_Clone_Li_Ext_i_Ext_n slices_Clone_Li_Ext_i_Ext_e⟩, .inl ⟨_, rfl, ok_i_keccak⟩, .inl ⟨_, rfl, ok_i_four⟩, .inl ⟨_, rfl, ok_s_l02Number⟩, .inl ⟨_, rfl, ok_s_l00Src_ext⟩, .inl ⟨_, rfl, ok_slices_ContainsFunc_Li_Ext_i_Ext⟩, .inl ⟨_, rfl, ok_i_are_i_Ext_1⟩, .inl ⟨_, rfl, ok_i_isPower⟩, .inl ⟨_, rfl, ok_i_Ext_minus⟩, .inl ⟨_, rfl, ok_i_add⟩, .inl ⟨_, rfl, ok_i_mul⟩, .inl ⟨_, rfl, ok_s_l08Tables⟩, .inl ⟨_, rfl, ok_i_isHash⟩, .inl ⟨_, rfl, ok_i_Source_absorbExts⟩, .inl ⟨_, rfl, ok_i_Source_draw⟩, .inl ⟨_, rfl, ok_i_bound⟩, .inl ⟨_, rfl, ok_slices_IndexFunc_LLi_Ext_Li_Ext⟩, .inl ⟨_, rfl, ok_i_lineAt⟩, .inl ⟨_, rfl, ok_s_l02List⟩, .inl ⟨_, rfl, ok_s_FieldOK⟩, .inl ⟨_, rfl, ok_s_l08Degree⟩, .inl ⟨_, rfl, ok_s_l02Add⟩, .inl ⟨_, rfl, ok_s_l05Exts⟩, .inl ⟨_, rfl, ok_s_l06Line⟩, .inl ⟨_, rfl, ok_i_extBytes⟩, .inl ⟨_, rfl, ok_s_l02Bytes⟩, .inl ⟨_, rfl, ok_s_l00Src_byte⟩, .inl ⟨_, rfl, ok_s_l03Hash⟩, .inl ⟨_, rfl, ok_s_l05Field⟩, .inl ⟨_, rfl, ok_i_lanesOf⟩, .inl ⟨_, rfl, ok_i_lanes_permute⟩, .inl ⟨_, rfl, ok_i_lanes_text⟩, .inl ⟨_, rfl, ok_slices_IndexFunc_Li_Ext_i_Ext⟩, .inl ⟨_, rfl, ok_i_sub⟩, .inl ⟨_, rfl, ok_i_modulo⟩, .inl ⟨_, rfl, ok_i_foldTable⟩, .inl ⟨_, rfl, ok_i_inverse⟩, .inl ⟨_, rfl, ok_s_l01Add⟩, .inl ⟨_, rfl, ok_s_l02Mul⟩, .inl ⟨_, rfl, ok_s_l02Sub⟩, .inl ⟨_, rfl, ok_s_l02Of⟩, .inl ⟨_, rfl, ok_s_l01Mul⟩, .inl ⟨_, rfl, ok_s_l01Sub⟩, .inl ⟨_, rfl, ok_s_l01Inverse⟩, .inl ⟨_, rfl, ok_s_l03Lanes⟩, .inl ⟨_, rfl, ok_s_l03Permute⟩, .inl ⟨_, rfl, ok_s_l03Text⟩, .inl ⟨_, rfl, ok_math_bits_RotateLeft64⟩, .inl ⟨_, rfl, ok_i_between⟩, .inl ⟨_, rfl, ok_i_pow⟩, .inl ⟨_, rfl, ok_s_l01Pow⟩, .inl ⟨_, rfl, ok_s_l03Rounds⟩, .inl ⟨_, rfl, ok_s_l03Shifts⟩, .inl ⟨_, rfl, ok_s_l03Turn⟩, trivial⟩
theorem okL : ∀ {l : List (Nat × FDef)}, AllOk l → ∀ p ∈ l, (∃ a, p.2 = .code a ∧ OkF p.1 a) ∨ (∃ g, p.2 = .ext g ∧ ExtOK Proofs.Tryz.prog p.1 g)
  | [], _, p, hp => by cases hp
  | q :: r, h, p, hp => by
    rcases List.mem_cons.1 hp with rfl | hp
    · exact h.1
    · exact okL h.2 p hp
theorem aget_in {α : Type} : ∀ {l : List (Nat × α)} {k : Nat} {v : α}, aget l k = some v → (k, v) ∈ l
  | [], _, _, h => by cases h
  | (j, u) :: r, k, v, h => by
    simp only [aget] at h
    split at h
    · rename_i e; cases h; subst e; simp
    · exact List.mem_cons_of_mem _ (aget_in h)
theorem tabOK : TabOK Proofs.Tryz.prog tab := by
  refine ⟨fun f af h => ?_, fun f g h => ?_⟩
  · obtain ⟨a, h1, h2⟩ | ⟨a, h1, h2⟩ := okL allOk _ (aget_in h)
    · cases h1; exact h2
    · cases h1
  · obtain ⟨a, h1, h2⟩ | ⟨a, h1, h2⟩ := okL allOk _ (aget_in h)
    · cases h1
    · cases h1; exact h2
end Go.AI.Fn
