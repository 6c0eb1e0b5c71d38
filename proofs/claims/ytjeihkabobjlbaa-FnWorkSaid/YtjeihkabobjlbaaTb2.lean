/- The table is right. -/
import Derived.Test.YtjeihkabobjlbaaTb1
set_option maxRecDepth 100000
namespace Go.AI.Fn
def AllOk : List (Nat × FDef) → Prop
  | [] => True
  | p :: r => (∃ a, p.2 = .code a ∧ OkF p.1 a) ∧ AllOk r
theorem allOk : AllOk tabL := ⟨⟨_, rfl, ok_w_FnWork⟩, ⟨_, rfl, ok_w_FnExactProofSize⟩, ⟨_, rfl, ok_w_FnExactWorkOf⟩, ⟨_, rfl, ok_w_toSetting⟩, ⟨_, rfl, ok_s_SystemDrawn⟩, ⟨_, rfl, ok_s_SettingOf⟩, ⟨_, rfl, ok_i_WorkOf⟩, ⟨_, rfl, ok_s_WorkOf⟩, ⟨_, rfl, ok_w_szSystem⟩, ⟨_, rfl, ok_s_ProofSize⟩, ⟨_, rfl, ok_w_toSystem⟩, ⟨_, rfl, ok_i_ProofSize⟩, ⟨_, rfl, ok_w_eqSystem⟩, ⟨_, rfl, ok_s_SettingOK⟩, ⟨_, rfl, ok_i_SettingOK⟩, ⟨_, rfl, ok_s_l01In⟩, ⟨_, rfl, ok_i_in⟩, ⟨_, rfl, ok_s_l00Source⟩, ⟨_, rfl, ok_s_l00Src_system⟩, ⟨_, rfl, ok_s_l00Src_setting⟩, ⟨_, rfl, ok_i_SystemOK⟩, ⟨_, rfl, ok_i_workOf⟩, ⟨_, rfl, ok_s_SystemOK⟩, ⟨_, rfl, ok_s_l15Calls⟩, ⟨_, rfl, ok_w_szEntryS⟩, ⟨_, rfl, ok_s_l14Size⟩, ⟨_, rfl, ok_w_toEntryS⟩, ⟨_, rfl, ok_i_proofSize⟩, ⟨_, rfl, ok_w_eqEntryS⟩, ⟨_, rfl, ok_s_l00Src_next⟩, ⟨_, rfl, ok_s_l00Src_entries⟩, ⟨_, rfl, ok_i_System_half⟩, ⟨_, rfl, ok_i_System_matrices⟩, ⟨_, rfl, ok_i_isMatrix⟩, ⟨_, rfl, ok_i_workOf_1⟩, ⟨_, rfl, ok_i_callsFor⟩, ⟨_, rfl, ok_i_workOf_2⟩, ⟨_, rfl, ok_i_System_digestText⟩, ⟨_, rfl, ok_s_l10List⟩, ⟨_, rfl, ok_s_l09Size⟩, ⟨_, rfl, ok_w_toEntry⟩, ⟨_, rfl, ok_i_openingSize⟩, ⟨_, rfl, ok_w_eqEntry⟩, ⟨_, rfl, ok_s_l00Src_byte⟩, ⟨_, rfl, ok_s_l00Src_chance⟩, ⟨_, rfl, ok_s_l00Src_field⟩, ⟨_, rfl, ok_i_Entry_order⟩, ⟨_, rfl, ok_i_four⟩, ⟨_, rfl, ok_cmp_Or_int⟩, ⟨_, rfl, ok_cmp_Compare_int⟩, ⟨_, rfl, ok_cmp_isNaN_int⟩, trivial⟩
theorem okL : ∀ {l : List (Nat × FDef)}, AllOk l → ∀ p ∈ l, ∃ a, p.2 = .code a ∧ OkF p.1 a
  | [], _, p, hp => by cases hp
  | q :: r, h, p, hp => by
    rcases List.mem_cons.1 hp with rfl | hp
    · exact h.1
    · exact okL h.2 p hp
theorem aget_in {α : Type} : ∀ {l : List (Nat × α)} {k : Nat} {v : α}, aget l k = some v → (k, v) ∈ l
  | [], _, _, h => by cases h
  | (j, u) :: r, k, v, h => by
    simp only [aget] at h
    split at h
    · rename_i e; cases h; subst e; simp
    · exact List.mem_cons_of_mem _ (aget_in h)
theorem tabOK : TabOK Proofs.Try.prog tab := by
  refine ⟨fun f af h => ?_, fun f g h => ?_⟩
  · obtain ⟨a, h1, h2⟩ := okL allOk _ (aget_in h)
    cases h1
    exact h2
  · obtain ⟨a, h1, h2⟩ := okL allOk _ (aget_in h)
    cases h1
end Go.AI.Fn
