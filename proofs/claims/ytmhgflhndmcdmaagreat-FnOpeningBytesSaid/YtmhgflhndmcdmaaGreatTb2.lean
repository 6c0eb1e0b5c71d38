/- The table is right. -/
import Derived.Test.YtmhgflhndmcdmaaGreatTb1
set_option maxRecDepth 100000
namespace Go.AI.Fn
def AllOk : List (Nat × FDef) → Prop
  | [] => True
  | p :: r => ((∃ a, p.2 = .code a ∧ OkF p.1 a) ∨ (∃ g, p.2 = .ext g ∧ ExtOK Proofs.Tryz.prog p.1 g)) ∧ AllOk r
theorem allOk : AllOk tabL := ⟨.inl ⟨_, rfl, ok_w_FnOpeningBytes⟩, .inl ⟨_, rfl, ok_s_SettingOf⟩, .inl ⟨_, rfl, ok_s_SourceOf⟩, .inl ⟨_, rfl, ok_s_ExtsOf⟩, .inl ⟨_, rfl, ok_w_at⟩, .inl ⟨_, rfl, ok_w_sameRounds⟩, .inl ⟨_, rfl, ok_w_sameExts⟩, .inl ⟨_, rfl, ok_s_OpenTable⟩, .inl ⟨_, rfl, ok_i_OpeningBytes⟩, .inl ⟨_, rfl, ok_s_OpeningBytes⟩, .inl ⟨_, rfl, ok_i_OpeningSize⟩, .inl ⟨_, rfl, ok_i_ReadOpening⟩, .inl ⟨_, rfl, ok_w_sameOpening⟩, .inl ⟨_, rfl, ok_s_l00Source⟩, .inl ⟨_, rfl, ok_s_l00Src_setting⟩, .inl ⟨_, rfl, ok_s_l00Src_source⟩, .inl ⟨_, rfl, ok_s_l05Own⟩, .inl ⟨_, rfl, ok_s_l00Src_exts⟩, .inl ⟨_, rfl, ok_i_are_i_Ext⟩, .inl ⟨_, rfl, ok_i_ExtOK⟩, .inl ⟨_, rfl, ok_i_in⟩, .inl ⟨_, rfl, ok_slices_ContainsFunc_LLi_Ext_Li_Ext⟩, .inl ⟨_, rfl, ok_s_ExtOK⟩, .inl ⟨_, rfl, ok_s_SourceOK⟩, .inl ⟨_, rfl, ok_s_l01In⟩, .inl ⟨_, rfl, ok_s_l05Spent⟩, .inl ⟨_, rfl, ok_s_l08Sum⟩, .inl ⟨_, rfl, ok_s_TableOK⟩, .inl ⟨_, rfl, ok_s_l06Point⟩, .inl ⟨_, rfl, ok_s_SettingOK⟩, .inl ⟨_, rfl, ok_s_l09Vars⟩, .inl ⟨_, rfl, ok_s_l09Open⟩, .inl ⟨_, rfl, ok_i_OpeningOK⟩, .inl ⟨_, rfl, ok_i_Opening_bytes⟩, .inl ⟨_, rfl, ok_s_OpeningOK⟩, .inl ⟨_, rfl, ok_s_l09Bytes⟩, .inl ⟨_, rfl, ok_i_openingCode⟩, .inl ⟨_, rfl, ok_i_openingSize⟩, .inl ⟨_, rfl, ok_i_byteReader_opening⟩, .inl ⟨_, rfl, ok_w_sameTexts⟩, .inl ⟨_, rfl, ok_i_SettingOK⟩, .inl ⟨_, rfl, ok_s_l00Src_next⟩, .inl ⟨_, rfl, ok_s_l00Src_field⟩, .inl ⟨_, rfl, ok_s_l05New⟩, .inl ⟨_, rfl, ok_s_l00Src_pick⟩, .inl ⟨_, rfl, ok_s_l00Src_chance⟩, .inl ⟨_, rfl, ok_s_l05Absorb⟩, .inl ⟨_, rfl, ok_s_l05Draw⟩, .inl ⟨_, rfl, ok_i_FieldOK⟩, .inl ⟨_, rfl, ok_i_four⟩, .inl ⟨_, rfl, ok_s_l02Number⟩, .inl ⟨_, rfl, ok_s_l00Src_ext⟩, .inl ⟨_, rfl, ok_slices_ContainsFunc_Li_Ext_i_Ext⟩, .inl ⟨_, rfl, ok_i_are_i_Ext_1⟩, .inl ⟨_, rfl, ok_i_isHash⟩, .inl ⟨_, rfl, ok_slices_IndexFunc_LLi_Ext_Li_Ext⟩, .inl ⟨_, rfl, ok_s_l02List⟩, .inl ⟨_, rfl, ok_s_FieldOK⟩, .inl ⟨_, rfl, ok_s_l08Degree⟩, .inl ⟨_, rfl, ok_s_l02Add⟩, .inl ⟨_, rfl, ok_s_l05Exts⟩, .inl ⟨_, rfl, ok_s_l08At⟩, .inl ⟨_, rfl, ok_s_l08Round⟩, .inl ⟨_, rfl, ok_s_l08Bind⟩, .inl ⟨_, rfl, ok_s_l06Table⟩, .inl ⟨_, rfl, ok_s_l04Power⟩, .inl ⟨_, rfl, ok_s_l06Eq⟩, .inl ⟨_, rfl, ok_s_l09Word⟩, .inl ⟨_, rfl, ok_s_l07Fold⟩, .inl ⟨_, rfl, ok_s_l04Root⟩, .inl ⟨_, rfl, ok_s_l09Leaves⟩, .inl ⟨_, rfl, ok_s_l05Grind⟩, .inl ⟨_, rfl, ok_s_l05Places⟩, .inl ⟨_, rfl, ok_s_l04Path⟩, .inl ⟨_, rfl, ok_s_l04Levels⟩, .inl ⟨_, rfl, ok_i_areRounds⟩, .inl ⟨_, rfl, ok_i_are_string⟩, .inl ⟨_, rfl, ok_i_are_i_Query⟩, .inl ⟨_, rfl, ok_i_OpeningOK_1⟩, .inl ⟨_, rfl, ok_i_isQuery⟩, .inl ⟨_, rfl, ok_i_extBytes⟩, .inl ⟨_, rfl, ok_s_l02Bytes⟩, .inl ⟨_, rfl, ok_i_byteReader_rounds⟩, .inl ⟨_, rfl, ok_i_byteReader_hash⟩, .inl ⟨_, rfl, ok_i_byteReader_exts⟩, .inl ⟨_, rfl, ok_i_number⟩, .inl ⟨_, rfl, ok_i_byteReader_take⟩, .inl ⟨_, rfl, ok_s_l00Src_byte⟩, .inl ⟨_, rfl, ok_s_l03Hash⟩, .inl ⟨_, rfl, ok_s_l05Field⟩, .inl ⟨_, rfl, ok_slices_IndexFunc_Li_Ext_i_Ext⟩, .inl ⟨_, rfl, ok_s_l01Add⟩, .inl ⟨_, rfl, ok_s_l02Mul⟩, .inl ⟨_, rfl, ok_s_l02Sub⟩, .inl ⟨_, rfl, ok_s_l02Of⟩, .inl ⟨_, rfl, ok_s_l01Mul⟩, .inl ⟨_, rfl, ok_s_l01Sub⟩, .inl ⟨_, rfl, ok_s_l01Inverse⟩, .inl ⟨_, rfl, ok_s_l08Combine⟩, .inl ⟨_, rfl, ok_s_l06Fold⟩, .inl ⟨_, rfl, ok_s_l06One⟩, .inl ⟨_, rfl, ok_s_l06Less⟩, .inl ⟨_, rfl, ok_s_l07Encode⟩, .inl ⟨_, rfl, ok_s_l06Coefs⟩, .inl ⟨_, rfl, ok_s_l07Pair⟩, .inl ⟨_, rfl, ok_s_l05Fits⟩, .inl ⟨_, rfl, ok_s_l05Some⟩, .inl ⟨_, rfl, ok_s_l04Leaf⟩, .inl ⟨_, rfl, ok_s_l04Node⟩, .inl ⟨_, rfl, ok_i_areRounds_1⟩, .inl ⟨_, rfl, ok_slices_ContainsFunc_Lstring_string⟩, .inl ⟨_, rfl, ok_i_are_string_1⟩, .inl ⟨_, rfl, ok_slices_ContainsFunc_Li_Query_i_Query⟩, .inl ⟨_, rfl, ok_i_are_i_Query_1⟩, .inl ⟨_, rfl, ok_i_readExts⟩, .inl ⟨_, rfl, ok_s_l03Lanes⟩, .inl ⟨_, rfl, ok_s_l03Permute⟩, .inl ⟨_, rfl, ok_s_l03Text⟩, .inl ⟨_, rfl, ok_s_l01Pow⟩, .inl ⟨_, rfl, ok_s_l07Ntt⟩, .inl ⟨_, rfl, ok_s_l01Root⟩, .inl ⟨_, rfl, ok_s_l06Vars⟩, .inl ⟨_, rfl, ok_slices_IndexFunc_Lstring_string⟩, .inl ⟨_, rfl, ok_slices_IndexFunc_Li_Query_i_Query⟩, .inl ⟨_, rfl, ok_s_l03Rounds⟩, .inl ⟨_, rfl, ok_s_l03Shifts⟩, .inl ⟨_, rfl, ok_s_l03Turn⟩, trivial⟩
theorem okL : ∀ {l : List (Nat × FDef)}, AllOk l → ∀ p ∈ l, (∃ a, p.2 = .code a ∧ OkF p.1 a) ∨ (∃ g, p.2 = .ext g ∧ ExtOK Proofs.Tryz.prog p.1 g)
  | [], _, p, hp => by cases hp
  | q :: r, h, p, hp => by
    rcases List.mem_cons.1 hp with rfl | hp
    · exact h.1
    · exact okL h.2 p hp
theorem aget_in {α : Type} : ∀ {l : List (Nat × α)} {k : Nat} {v : α}, aget l k = some v → (k, v) ∈ l
  | [], _, _, h => by cases h
  | (j, u) :: r, k, v, h => by
    simp only [aget] at h
    split at h
    · rename_i e; cases h; subst e; simp
    · exact List.mem_cons_of_mem _ (aget_in h)
theorem tabOK : TabOK Proofs.Tryz.prog tab := by
  refine ⟨fun f af h => ?_, fun f g h => ?_⟩
  · obtain ⟨a, h1, h2⟩ | ⟨a, h1, h2⟩ := okL allOk _ (aget_in h)
    · cases h1; exact h2
    · cases h1
  · obtain ⟨a, h1, h2⟩ | ⟨a, h1, h2⟩ := okL allOk _ (aget_in h)
    · cases h1
    · cases h1; exact h2
end Go.AI.Fn
