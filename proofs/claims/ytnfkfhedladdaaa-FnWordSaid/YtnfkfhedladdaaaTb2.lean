/- The table is right. -/
import Derived.Test.YtnfkfhedladdaaaTb1
set_option maxRecDepth 100000
namespace Go.AI.Fn
def AllOk : List (Nat × FDef) → Prop
  | [] => True
  | p :: r => ((∃ a, p.2 = .code a ∧ OkF p.1 a) ∨ (∃ g, p.2 = .ext g ∧ ExtOK Proofs.Try.prog p.1 g)) ∧ AllOk r
theorem allOk : AllOk tabL := ⟨.inl ⟨_, rfl, ok_w_FnWord⟩, .inl ⟨_, rfl, ok_w_at⟩, .inl ⟨_, rfl, ok_s_ExtsOf⟩, .inl ⟨_, rfl, ok_s_ExtOf⟩, .inl ⟨_, rfl, ok_i_EncodeWord⟩, .inl ⟨_, rfl, ok_i_FoldWord⟩, .inl ⟨_, rfl, ok_i_ExtAdd⟩, .inl ⟨_, rfl, ok_w_sameExts⟩, .inl ⟨_, rfl, ok_s_EncodeWord⟩, .inl ⟨_, rfl, ok_i_IsWord⟩, .inl ⟨_, rfl, ok_w_one⟩, .inl ⟨_, rfl, ok_s_l00Source⟩, .inl ⟨_, rfl, ok_s_l00Src_exts⟩, .inl ⟨_, rfl, ok_s_l00Src_ext⟩, .inl ⟨_, rfl, ok_i_wordCode⟩, .inl ⟨_, rfl, ok_i_in⟩, .inl ⟨_, rfl, ok_i_encoded⟩, .inl ⟨_, rfl, ok_i_ExtOK⟩, .inl ⟨_, rfl, ok_i_foldWord⟩, .inl ⟨_, rfl, ok_i_extTwo⟩, .inl ⟨_, rfl, ok_i_Ext_times⟩, .inl ⟨_, rfl, ok_i_Ext_plus⟩, .inl ⟨_, rfl, ok_i_isPower⟩, .inl ⟨_, rfl, ok_i_foldPair⟩, .inl ⟨_, rfl, ok_s_l07Ask⟩, .inl ⟨_, rfl, ok_s_l01In⟩, .inl ⟨_, rfl, ok_s_l07Encode⟩, .inl ⟨_, rfl, ok_slices_ContainsFunc_Li_Ext_i_Ext⟩, .inl ⟨_, rfl, ok_i_unNtt⟩, .inl ⟨_, rfl, ok_i_IsWord_1⟩, .inl ⟨_, rfl, ok_s_l00Src_chance⟩, .inl ⟨_, rfl, ok_s_l00Src_field⟩, .inl ⟨_, rfl, ok_i_are_i_Ext⟩, .inl ⟨_, rfl, ok_i_ntt⟩, .inl ⟨_, rfl, ok_i_FieldOK⟩, .inl ⟨_, rfl, ok_i_add⟩, .inl ⟨_, rfl, ok_i_mul⟩, .inl ⟨_, rfl, ok_i_inverse⟩, .inl ⟨_, rfl, ok_i_pow⟩, .inl ⟨_, rfl, ok_i_root⟩, .inl ⟨_, rfl, ok_i_logOf⟩, .inl ⟨_, rfl, ok_i_Ext_scaled⟩, .inl ⟨_, rfl, ok_i_Ext_minus⟩, .inl ⟨_, rfl, ok_s_l02List⟩, .inl ⟨_, rfl, ok_s_l07Size⟩, .inl ⟨_, rfl, ok_s_l07Ntt⟩, .inl ⟨_, rfl, ok_s_l01Root⟩, .inl ⟨_, rfl, ok_s_l06Vars⟩, .inl ⟨_, rfl, ok_slices_IndexFunc_Li_Ext_i_Ext⟩, .inl ⟨_, rfl, ok_i_values⟩, .inl ⟨_, rfl, ok_s_l00Src_next⟩, .inl ⟨_, rfl, ok_i_are_i_Ext_1⟩, .inl ⟨_, rfl, ok_math_bits_Len⟩, .inl ⟨_, rfl, ok_i_sub⟩, .inl ⟨_, rfl, ok_s_ExtOK⟩, .inl ⟨_, rfl, ok_s_l04Power⟩, .inl ⟨_, rfl, ok_s_l01Mul⟩, .inl ⟨_, rfl, ok_s_l02Mul⟩, .inl ⟨_, rfl, ok_s_l02Of⟩, .inl ⟨_, rfl, ok_s_l02Add⟩, .inl ⟨_, rfl, ok_s_l02Sub⟩, .inl ⟨_, rfl, ok_s_l01Pow⟩, .inr ⟨_, rfl, cloneO_ok ok_slices_Clone_Li_Ext_i_Ext slices_Clone_Li_Ext_i_Ext_n slices_Clone_Li_Ext_i_Ext_e⟩, .inl ⟨_, rfl, ok_s_l00Src_byte⟩, .inl ⟨_, rfl, ok_math_bits_Len64⟩, .inl ⟨_, rfl, ok_s_FieldOK⟩, .inl ⟨_, rfl, ok_s_l01Add⟩, .inl ⟨_, rfl, ok_s_l01Sub⟩, trivial⟩
theorem okL : ∀ {l : List (Nat × FDef)}, AllOk l → ∀ p ∈ l, (∃ a, p.2 = .code a ∧ OkF p.1 a) ∨ (∃ g, p.2 = .ext g ∧ ExtOK Proofs.Try.prog p.1 g)
  | [], _, p, hp => by cases hp
  | q :: r, h, p, hp => by
    rcases List.mem_cons.1 hp with rfl | hp
    · exact h.1
    · exact okL h.2 p hp
theorem aget_in {α : Type} : ∀ {l : List (Nat × α)} {k : Nat} {v : α}, aget l k = some v → (k, v) ∈ l
  | [], _, _, h => by cases h
  | (j, u) :: r, k, v, h => by
    simp only [aget] at h
    split at h
    · rename_i e; cases h; subst e; simp
    · exact List.mem_cons_of_mem _ (aget_in h)
theorem tabOK : TabOK Proofs.Try.prog tab := by
  refine ⟨fun f af h => ?_, fun f g h => ?_⟩
  · obtain ⟨a, h1, h2⟩ | ⟨a, h1, h2⟩ := okL allOk _ (aget_in h)
    · cases h1; exact h2
    · cases h1
  · obtain ⟨a, h1, h2⟩ | ⟨a, h1, h2⟩ := okL allOk _ (aget_in h)
    · cases h1
    · cases h1; exact h2
end Go.AI.Fn
