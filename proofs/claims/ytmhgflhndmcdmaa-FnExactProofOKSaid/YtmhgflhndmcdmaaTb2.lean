/- The table is right. -/
import Derived.Test.YtmhgflhndmcdmaaTb1
set_option maxRecDepth 100000
namespace Go.AI.Fn
def AllOk : List (Nat × FDef) → Prop
  | [] => True
  | p :: r => ((∃ a, p.2 = .code a ∧ OkF p.1 a) ∨ (∃ g, p.2 = .ext g ∧ ExtOK Proofs.Try.prog p.1 g)) ∧ AllOk r
theorem allOk : AllOk tabL := ⟨.inl ⟨_, rfl, ok_w_FnExactProofOK⟩, .inl ⟨_, rfl, ok_w_szSystem⟩, .inl ⟨_, rfl, ok_w_szExtS⟩, .inl ⟨_, rfl, ok_w_toSystem⟩, .inl ⟨_, rfl, ok_w_toExtS⟩, .inl ⟨_, rfl, ok_w_toExt⟩, .inl ⟨_, rfl, ok_w_eqExtS⟩, .inl ⟨_, rfl, ok_w_eqSystem⟩, .inl ⟨_, rfl, ok_w_szOpening⟩, .inl ⟨_, rfl, ok_w_toOpening⟩, .inl ⟨_, rfl, ok_w_toSetting⟩, .inl ⟨_, rfl, ok_w_eqOpening⟩, .inl ⟨_, rfl, ok_w_szProof⟩, .inl ⟨_, rfl, ok_s_ProofOK⟩, .inl ⟨_, rfl, ok_w_toProof⟩, .inl ⟨_, rfl, ok_i_ProofOK⟩, .inl ⟨_, rfl, ok_w_eqProof⟩, .inl ⟨_, rfl, ok_i_in⟩, .inl ⟨_, rfl, ok_i_FieldOK⟩, .inl ⟨_, rfl, ok_i_are_i_Ext⟩, .inl ⟨_, rfl, ok_i_ExtOK⟩, .inl ⟨_, rfl, ok_w_szEntryS⟩, .inl ⟨_, rfl, ok_s_SystemOK⟩, .inl ⟨_, rfl, ok_s_l02List⟩, .inl ⟨_, rfl, ok_w_toEntryS⟩, .inl ⟨_, rfl, ok_i_SystemOK⟩, .inl ⟨_, rfl, ok_w_eqExt⟩, .inl ⟨_, rfl, ok_w_eqEntryS⟩, .inl ⟨_, rfl, ok_w_szExtSS⟩, .inl ⟨_, rfl, ok_w_szStringS⟩, .inl ⟨_, rfl, ok_w_szQueryS⟩, .inl ⟨_, rfl, ok_s_OpeningOK⟩, .inl ⟨_, rfl, ok_w_toExtSS⟩, .inl ⟨_, rfl, ok_w_toStringS⟩, .inl ⟨_, rfl, ok_w_toQueryS⟩, .inl ⟨_, rfl, ok_i_OpeningOK⟩, .inl ⟨_, rfl, ok_w_eqExtSS⟩, .inl ⟨_, rfl, ok_w_eqStringS⟩, .inl ⟨_, rfl, ok_w_eqQueryS⟩, .inl ⟨_, rfl, ok_s_SettingOK⟩, .inl ⟨_, rfl, ok_s_l01In⟩, .inl ⟨_, rfl, ok_i_SettingOK⟩, .inl ⟨_, rfl, ok_i_isHash⟩, .inl ⟨_, rfl, ok_i_areRounds⟩, .inl ⟨_, rfl, ok_slices_ContainsFunc_Li_Ext_i_Ext⟩, .inl ⟨_, rfl, ok_i_are_i_Ext_1⟩, .inl ⟨_, rfl, ok_s_l10List⟩, .inl ⟨_, rfl, ok_s_ExtOK⟩, .inl ⟨_, rfl, ok_w_toEntry⟩, .inl ⟨_, rfl, ok_i_System_half⟩, .inl ⟨_, rfl, ok_i_System_matrices⟩, .inl ⟨_, rfl, ok_i_isMatrix⟩, .inl ⟨_, rfl, ok_w_eqEntry⟩, .inl ⟨_, rfl, ok_w_szQuery⟩, .inl ⟨_, rfl, ok_w_toQuery⟩, .inl ⟨_, rfl, ok_i_are_string⟩, .inl ⟨_, rfl, ok_i_are_i_Query⟩, .inl ⟨_, rfl, ok_i_OpeningOK_1⟩, .inl ⟨_, rfl, ok_i_isQuery⟩, .inl ⟨_, rfl, ok_w_eqQuery⟩, .inl ⟨_, rfl, ok_slices_ContainsFunc_LLi_Ext_Li_Ext⟩, .inl ⟨_, rfl, ok_i_areRounds_1⟩, .inl ⟨_, rfl, ok_slices_IndexFunc_Li_Ext_i_Ext⟩, .inl ⟨_, rfl, ok_s_FieldOK⟩, .inl ⟨_, rfl, ok_i_Entry_order⟩, .inl ⟨_, rfl, ok_w_szStringSS⟩, .inl ⟨_, rfl, ok_w_toStringSS⟩, .inl ⟨_, rfl, ok_slices_ContainsFunc_Lstring_string⟩, .inl ⟨_, rfl, ok_i_are_string_1⟩, .inl ⟨_, rfl, ok_slices_ContainsFunc_Li_Query_i_Query⟩, .inl ⟨_, rfl, ok_i_are_i_Query_1⟩, .inl ⟨_, rfl, ok_w_eqStringSS⟩, .inl ⟨_, rfl, ok_slices_IndexFunc_LLi_Ext_Li_Ext⟩, .inl ⟨_, rfl, ok_cmp_Or_int⟩, .inl ⟨_, rfl, ok_cmp_Compare_int⟩, .inl ⟨_, rfl, ok_slices_IndexFunc_Lstring_string⟩, .inl ⟨_, rfl, ok_slices_IndexFunc_Li_Query_i_Query⟩, .inl ⟨_, rfl, ok_cmp_isNaN_int⟩, trivial⟩
theorem okL : ∀ {l : List (Nat × FDef)}, AllOk l → ∀ p ∈ l, (∃ a, p.2 = .code a ∧ OkF p.1 a) ∨ (∃ g, p.2 = .ext g ∧ ExtOK Proofs.Try.prog p.1 g)
  | [], _, p, hp => by cases hp
  | q :: r, h, p, hp => by
    rcases List.mem_cons.1 hp with rfl | hp
    · exact h.1
    · exact okL h.2 p hp
theorem aget_in {α : Type} : ∀ {l : List (Nat × α)} {k : Nat} {v : α}, aget l k = some v → (k, v) ∈ l
  | [], _, _, h => by cases h
  | (j, u) :: r, k, v, h => by
    simp only [aget] at h
    split at h
    · rename_i e; cases h; subst e; simp
    · exact List.mem_cons_of_mem _ (aget_in h)
theorem tabOK : TabOK Proofs.Try.prog tab := by
  refine ⟨fun f af h => ?_, fun f g h => ?_⟩
  · obtain ⟨a, h1, h2⟩ | ⟨a, h1, h2⟩ := okL allOk _ (aget_in h)
    · cases h1; exact h2
    · cases h1
  · obtain ⟨a, h1, h2⟩ | ⟨a, h1, h2⟩ := okL allOk _ (aget_in h)
    · cases h1
    · cases h1; exact h2
end Go.AI.Fn
