/- The table is right. -/
import Derived.Test.YthjmakpfalhadaaTb1
set_option maxRecDepth 100000
namespace Go.AI.Fn
def AllOk : List (Nat × FDef) → Prop
  | [] => True
  | p :: r => (∃ a, p.2 = .code a ∧ OkF p.1 a) ∧ AllOk r
theorem allOk : AllOk tabL := ⟨⟨_, rfl, ok_w_FnExtBytes⟩, ⟨_, rfl, ok_s_ExtsOf⟩, ⟨_, rfl, ok_w_at⟩, ⟨_, rfl, ok_i_ExtMul⟩, ⟨_, rfl, ok_i_ExtAdd⟩, ⟨_, rfl, ok_w_sameExts⟩, ⟨_, rfl, ok_i_ExtBytes⟩, ⟨_, rfl, ok_s_ExtBytes⟩, ⟨_, rfl, ok_i_ReadExts⟩, ⟨_, rfl, ok_i_ExtDot⟩, ⟨_, rfl, ok_s_ExtDot⟩, ⟨_, rfl, ok_s_ReadExts⟩, ⟨_, rfl, ok_s_l00Source⟩, ⟨_, rfl, ok_s_l00Src_exts⟩, ⟨_, rfl, ok_i_FieldOK⟩, ⟨_, rfl, ok_i_are_i_Ext⟩, ⟨_, rfl, ok_i_ExtOK⟩, ⟨_, rfl, ok_i_dot⟩, ⟨_, rfl, ok_s_l00Src_ext⟩, ⟨_, rfl, ok_i_in⟩, ⟨_, rfl, ok_i_extTwo⟩, ⟨_, rfl, ok_i_Ext_times⟩, ⟨_, rfl, ok_i_Ext_plus⟩, ⟨_, rfl, ok_i_extBytes⟩, ⟨_, rfl, ok_s_l02List⟩, ⟨_, rfl, ok_s_l02Bytes⟩, ⟨_, rfl, ok_i_readExts⟩, ⟨_, rfl, ok_i_areLists⟩, ⟨_, rfl, ok_s_l02Add⟩, ⟨_, rfl, ok_s_l02Mul⟩, ⟨_, rfl, ok_s_l02Read⟩, ⟨_, rfl, ok_s_l01In⟩, ⟨_, rfl, ok_slices_ContainsFunc_Li_Ext_i_Ext⟩, ⟨_, rfl, ok_s_l00Src_next⟩, ⟨_, rfl, ok_s_l00Src_field⟩, ⟨_, rfl, ok_i_are_i_Ext_1⟩, ⟨_, rfl, ok_s_l00Src_chance⟩, ⟨_, rfl, ok_i_add⟩, ⟨_, rfl, ok_i_mul⟩, ⟨_, rfl, ok_i_four⟩, ⟨_, rfl, ok_s_ExtOK⟩, ⟨_, rfl, ok_s_l02Number⟩, ⟨_, rfl, ok_i_number⟩, ⟨_, rfl, ok_s_l01Add⟩, ⟨_, rfl, ok_s_l01Mul⟩, ⟨_, rfl, ok_s_l02Four⟩, ⟨_, rfl, ok_slices_IndexFunc_Li_Ext_i_Ext⟩, ⟨_, rfl, ok_s_FieldOK⟩, ⟨_, rfl, ok_s_l00Src_byte⟩, trivial⟩
theorem okL : ∀ {l : List (Nat × FDef)}, AllOk l → ∀ p ∈ l, ∃ a, p.2 = .code a ∧ OkF p.1 a
  | [], _, p, hp => by cases hp
  | q :: r, h, p, hp => by
    rcases List.mem_cons.1 hp with rfl | hp
    · exact h.1
    · exact okL h.2 p hp
theorem aget_in {α : Type} : ∀ {l : List (Nat × α)} {k : Nat} {v : α}, aget l k = some v → (k, v) ∈ l
  | [], _, _, h => by cases h
  | (j, u) :: r, k, v, h => by
    simp only [aget] at h
    split at h
    · rename_i e; cases h; subst e; simp
    · exact List.mem_cons_of_mem _ (aget_in h)
theorem tabOK : TabOK Proofs.Try.prog tab := by
  refine ⟨fun f af h => ?_, fun f g h => ?_⟩
  · obtain ⟨a, h1, h2⟩ := okL allOk _ (aget_in h)
    cases h1
    exact h2
  · obtain ⟨a, h1, h2⟩ := okL allOk _ (aget_in h)
    cases h1
end Go.AI.Fn
