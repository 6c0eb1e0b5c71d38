/- The table is right. -/
import Derived.Test.YthjmakpfalhadaaTb1
set_option maxRecDepth 100000
namespace Go.AI.Fn
def AllOk : List (Nat × FDef) → Prop
  | [] => True
  | p :: r => ((∃ a, p.2 = .code a ∧ OkF p.1 a) ∨ (∃ g, p.2 = .ext g ∧ ExtOK Proofs.Try.prog p.1 g)) ∧ AllOk r
theorem allOk : AllOk tabL := ⟨.inl ⟨_, rfl, ok_w_FnPublic⟩, .inl ⟨_, rfl, ok_s_SystemDrawn⟩, .inl ⟨_, rfl, ok_s_NumbersOf⟩, .inl ⟨_, rfl, ok_s_ExtsOf⟩, .inl ⟨_, rfl, ok_i_PublicAt⟩, .inl ⟨_, rfl, ok_i_VectorOf⟩, .inl ⟨_, rfl, ok_i_TableAt⟩, .inl ⟨_, rfl, ok_s_l00Source⟩, .inl ⟨_, rfl, ok_s_l00Src_system⟩, .inl ⟨_, rfl, ok_s_l00Src_fields⟩, .inl ⟨_, rfl, ok_s_l00Src_exts⟩, .inl ⟨_, rfl, ok_i_SystemOK⟩, .inl ⟨_, rfl, ok_i_are_int⟩, .inl ⟨_, rfl, ok_i_FieldOK⟩, .inl ⟨_, rfl, ok_i_are_i_Ext⟩, .inl ⟨_, rfl, ok_i_ExtOK⟩, .inl ⟨_, rfl, ok_i_publicAt⟩, .inl ⟨_, rfl, ok_i_System_half⟩, .inl ⟨_, rfl, ok_i_System_vector⟩, .inl ⟨_, rfl, ok_i_TableOK⟩, .inl ⟨_, rfl, ok_i_isPoint⟩, .inl ⟨_, rfl, ok_i_dot⟩, .inl ⟨_, rfl, ok_i_eqTable⟩, .inl ⟨_, rfl, ok_s_l00Src_ext⟩, .inl ⟨_, rfl, ok_i_in⟩, .inl ⟨_, rfl, ok_i_Ext_times⟩, .inl ⟨_, rfl, ok_i_Ext_plus⟩, .inl ⟨_, rfl, ok_i_isPower⟩, .inl ⟨_, rfl, ok_slices_ContainsFunc_Li_Ext_i_Ext⟩, .inl ⟨_, rfl, ok_i_isMatrix⟩, .inl ⟨_, rfl, ok_s_l00Src_next⟩, .inl ⟨_, rfl, ok_s_l00Src_entries⟩, .inl ⟨_, rfl, ok_s_l00Src_field⟩, .inl ⟨_, rfl, ok_i_System_matrices⟩, .inl ⟨_, rfl, ok_slices_ContainsFunc_Lint_int⟩, .inl ⟨_, rfl, ok_i_are_int_1⟩, .inl ⟨_, rfl, ok_i_are_i_Ext_1⟩, .inl ⟨_, rfl, ok_i_exts⟩, .inl ⟨_, rfl, ok_i_one⟩, .inl ⟨_, rfl, ok_i_Ext_minus⟩, .inl ⟨_, rfl, ok_s_l00Src_chance⟩, .inl ⟨_, rfl, ok_i_add⟩, .inl ⟨_, rfl, ok_i_mul⟩, .inl ⟨_, rfl, ok_slices_IndexFunc_Li_Ext_i_Ext⟩, .inl ⟨_, rfl, ok_i_Entry_order⟩, .inl ⟨_, rfl, ok_s_l00Src_byte⟩, .inl ⟨_, rfl, ok_slices_IndexFunc_Lint_int⟩, .inl ⟨_, rfl, ok_i_sub⟩, .inl ⟨_, rfl, ok_cmp_Or_int⟩, .inl ⟨_, rfl, ok_cmp_Compare_int⟩, .inl ⟨_, rfl, ok_cmp_isNaN_int⟩, trivial⟩
theorem okL : ∀ {l : List (Nat × FDef)}, AllOk l → ∀ p ∈ l, (∃ a, p.2 = .code a ∧ OkF p.1 a) ∨ (∃ g, p.2 = .ext g ∧ ExtOK Proofs.Try.prog p.1 g)
  | [], _, p, hp => by cases hp
  | q :: r, h, p, hp => by
    rcases List.mem_cons.1 hp with rfl | hp
    · exact h.1
    · exact okL h.2 p hp
theorem aget_in {α : Type} : ∀ {l : List (Nat × α)} {k : Nat} {v : α}, aget l k = some v → (k, v) ∈ l
  | [], _, _, h => by cases h
  | (j, u) :: r, k, v, h => by
    simp only [aget] at h
    split at h
    · rename_i e; cases h; subst e; simp
    · exact List.mem_cons_of_mem _ (aget_in h)
theorem tabOK : TabOK Proofs.Try.prog tab := by
  refine ⟨fun f af h => ?_, fun f g h => ?_⟩
  · obtain ⟨a, h1, h2⟩ | ⟨a, h1, h2⟩ := okL allOk _ (aget_in h)
    · cases h1; exact h2
    · cases h1
  · obtain ⟨a, h1, h2⟩ | ⟨a, h1, h2⟩ := okL allOk _ (aget_in h)
    · cases h1
    · cases h1; exact h2
end Go.AI.Fn
