/- The table is right. -/
import Derived.Test.YtjeihkabobjlbaaTb1
set_option maxRecDepth 100000
namespace Go.AI.Fn
def AllOk : List (Nat × FDef) → Prop
  | [] => True
  | p :: r => (∃ a, p.2 = .code a ∧ OkF p.1 a) ∧ AllOk r
theorem allOk : AllOk tabL := ⟨⟨_, rfl, ok_w_FnSelect⟩, ⟨_, rfl, ok_i_QueryBits⟩, ⟨_, rfl, ok_i_Secure⟩, ⟨_, rfl, ok_s_Select⟩, ⟨_, rfl, ok_i_Select⟩, ⟨_, rfl, ok_w_at⟩, ⟨_, rfl, ok_s_l15Bits⟩, ⟨_, rfl, ok_i_SettingOK⟩, ⟨_, rfl, ok_i_Setting_bitsOf⟩, ⟨_, rfl, ok_s_l01In⟩, ⟨_, rfl, ok_i_in⟩, ⟨_, rfl, ok_s_l15Enough⟩, trivial⟩
theorem okL : ∀ {l : List (Nat × FDef)}, AllOk l → ∀ p ∈ l, ∃ a, p.2 = .code a ∧ OkF p.1 a
  | [], _, p, hp => by cases hp
  | q :: r, h, p, hp => by
    rcases List.mem_cons.1 hp with rfl | hp
    · exact h.1
    · exact okL h.2 p hp
theorem aget_in {α : Type} : ∀ {l : List (Nat × α)} {k : Nat} {v : α}, aget l k = some v → (k, v) ∈ l
  | [], _, _, h => by cases h
  | (j, u) :: r, k, v, h => by
    simp only [aget] at h
    split at h
    · rename_i e; cases h; subst e; simp
    · exact List.mem_cons_of_mem _ (aget_in h)
theorem tabOK : TabOK Proofs.Try.prog tab := by
  refine ⟨fun f af h => ?_, fun f g h => ?_⟩
  · obtain ⟨a, h1, h2⟩ := okL allOk _ (aget_in h)
    cases h1
    exact h2
  · obtain ⟨a, h1, h2⟩ := okL allOk _ (aget_in h)
    cases h1
end Go.AI.Fn
