/- The table is right. -/
import Derived.Test.YthjmakpfalhadaaTb1
set_option maxRecDepth 100000
namespace Go.AI.Fn
def AllOk : List (Nat × FDef) → Prop
  | [] => True
  | p :: r => ((∃ a, p.2 = .code a ∧ OkF p.1 a) ∨ (∃ g, p.2 = .ext g ∧ ExtOK Proofs.Try.prog p.1 g)) ∧ AllOk r
theorem allOk : AllOk tabL := ⟨.inl ⟨_, rfl, ok_w_FnCollision⟩, .inl ⟨_, rfl, ok_w_at⟩, .inl ⟨_, rfl, ok_s_LeavesOf⟩, .inl ⟨_, rfl, ok_i_MerkleRoot⟩, .inl ⟨_, rfl, ok_i_MerklePath⟩, .inl ⟨_, rfl, ok_i_ExtractCollision⟩, .inl ⟨_, rfl, ok_s_BytesOf⟩, .inl ⟨_, rfl, ok_s_ExtractCollision⟩, .inl ⟨_, rfl, ok_i_Keccak256⟩, .inl ⟨_, rfl, ok_s_l00Source⟩, .inl ⟨_, rfl, ok_i_in⟩, .inl ⟨_, rfl, ok_i_isPower⟩, .inl ⟨_, rfl, ok_s_l01In⟩, .inl ⟨_, rfl, ok_s_l00Src_leaves⟩, .inl ⟨_, rfl, ok_i_leavesCode⟩, .inl ⟨_, rfl, ok_i_rootOf⟩, .inl ⟨_, rfl, ok_i_levels⟩, .inl ⟨_, rfl, ok_i_pathOf⟩, .inl ⟨_, rfl, ok_i_isLong⟩, .inl ⟨_, rfl, ok_i_placeCode⟩, .inl ⟨_, rfl, ok_i_leads⟩, .inl ⟨_, rfl, ok_i_texts⟩, .inl ⟨_, rfl, ok_s_l00Src_bytes⟩, .inl ⟨_, rfl, ok_s_l04Ask⟩, .inl ⟨_, rfl, ok_s_l04Check⟩, .inl ⟨_, rfl, ok_s_l04Up⟩, .inl ⟨_, rfl, ok_i_keccak⟩, .inl ⟨_, rfl, ok_i_hashOf⟩, .inl ⟨_, rfl, ok_i_leafText⟩, .inl ⟨_, rfl, ok_i_isHash⟩, .inl ⟨_, rfl, ok_i_nodeText⟩, .inl ⟨_, rfl, ok_s_l00Src_next⟩, .inl ⟨_, rfl, ok_i_logOf⟩, .inl ⟨_, rfl, ok_s_l00Src_pick⟩, .inl ⟨_, rfl, ok_slices_ContainsFunc_Lstring_string⟩, .inl ⟨_, rfl, ok_i_leavesCode_1⟩, .inl ⟨_, rfl, ok_i_leads_1⟩, .inl ⟨_, rfl, ok_s_l04Power⟩, .inl ⟨_, rfl, ok_s_l04Leaf⟩, .inl ⟨_, rfl, ok_s_l03Hash⟩, .inl ⟨_, rfl, ok_i_lanesOf⟩, .inl ⟨_, rfl, ok_i_lanes_permute⟩, .inl ⟨_, rfl, ok_i_lanes_text⟩, .inl ⟨_, rfl, ok_s_l00Src_byte⟩, .inl ⟨_, rfl, ok_math_bits_Len⟩, .inl ⟨_, rfl, ok_slices_IndexFunc_Lstring_string⟩, .inl ⟨_, rfl, ok_s_l03Lanes⟩, .inl ⟨_, rfl, ok_s_l03Permute⟩, .inl ⟨_, rfl, ok_s_l03Text⟩, .inl ⟨_, rfl, ok_math_bits_RotateLeft64⟩, .inl ⟨_, rfl, ok_math_bits_Len64⟩, .inl ⟨_, rfl, ok_s_l03Rounds⟩, .inl ⟨_, rfl, ok_s_l03Shifts⟩, .inl ⟨_, rfl, ok_s_l03Turn⟩, trivial⟩
theorem okL : ∀ {l : List (Nat × FDef)}, AllOk l → ∀ p ∈ l, (∃ a, p.2 = .code a ∧ OkF p.1 a) ∨ (∃ g, p.2 = .ext g ∧ ExtOK Proofs.Try.prog p.1 g)
  | [], _, p, hp => by cases hp
  | q :: r, h, p, hp => by
    rcases List.mem_cons.1 hp with rfl | hp
    · exact h.1
    · exact okL h.2 p hp
theorem aget_in {α : Type} : ∀ {l : List (Nat × α)} {k : Nat} {v : α}, aget l k = some v → (k, v) ∈ l
  | [], _, _, h => by cases h
  | (j, u) :: r, k, v, h => by
    simp only [aget] at h
    split at h
    · rename_i e; cases h; subst e; simp
    · exact List.mem_cons_of_mem _ (aget_in h)
theorem tabOK : TabOK Proofs.Try.prog tab := by
  refine ⟨fun f af h => ?_, fun f g h => ?_⟩
  · obtain ⟨a, h1, h2⟩ | ⟨a, h1, h2⟩ := okL allOk _ (aget_in h)
    · cases h1; exact h2
    · cases h1
  · obtain ⟨a, h1, h2⟩ | ⟨a, h1, h2⟩ := okL allOk _ (aget_in h)
    · cases h1
    · cases h1; exact h2
end Go.AI.Fn
