/- The table. -/
import Derived.Test.YtnfkfhedladdaaaTb0
set_option linter.unusedVariables false
set_option maxRecDepth 100000
namespace Go.AI.Fn
noncomputable def tabL : List (Nat × FDef) := [(4, .code a_w_FnWord), (5, .code a_w_at), (6, .code a_s_ExtsOf), (7, .code a_s_ExtOf), (8, .code a_i_EncodeWord), (9, .code a_i_FoldWord), (11, .code a_i_ExtAdd), (12, .code a_w_sameExts), (14, .code a_s_EncodeWord), (15, .code a_i_IsWord), (16, .code a_w_one), (17, .code a_s_l00Source), (18, .code a_s_l00Src_exts), (19, .code a_s_l00Src_ext), (20, .code a_i_wordCode), (21, .code a_i_in), (22, .code a_i_encoded), (23, .code a_i_ExtOK), (24, .code a_i_foldWord), (25, .code a_i_extTwo), (26, .code a_i_Ext_times), (27, .code a_i_Ext_plus), (28, .code a_i_isPower), (29, .code a_i_foldPair), (30, .code a_s_l07Ask), (31, .code a_s_l01In), (32, .code a_s_l07Encode), (33, .code a_slices_ContainsFunc_Li_Ext_i_Ext), (34, .code a_i_unNtt), (35, .code a_i_IsWord_1), (36, .code a_s_l00Src_chance), (37, .code a_s_l00Src_field), (38, .code a_i_are_i_Ext), (39, .code a_i_ntt), (40, .code a_i_FieldOK), (41, .code a_i_add), (42, .code a_i_mul), (43, .code a_i_inverse), (44, .code a_i_pow), (45, .code a_i_root), (46, .code a_i_logOf), (47, .code a_i_Ext_scaled), (48, .code a_i_Ext_minus), (49, .code a_s_l02List), (50, .code a_s_l07Size), (51, .code a_s_l07Ntt), (52, .code a_s_l01Root), (53, .code a_s_l06Vars), (54, .code a_slices_IndexFunc_Li_Ext_i_Ext), (55, .code a_i_values), (56, .code a_s_l00Src_next), (57, .code a_i_are_i_Ext_1), (58, .code a_math_bits_Len), (59, .code a_i_sub), (60, .code a_s_ExtOK), (61, .code a_s_l04Power), (62, .code a_s_l01Mul), (63, .code a_s_l02Mul), (64, .code a_s_l02Of), (65, .code a_s_l02Add), (66, .code a_s_l02Sub), (67, .code a_s_l01Pow), (68, .ext (cloneO 68 a_slices_Clone_Li_Ext_i_Ext 2)), (69, .code a_s_l00Src_byte), (71, .code a_math_bits_Len64), (72, .code a_s_FieldOK), (73, .code a_s_l01Add), (74, .code a_s_l01Sub)]
noncomputable def tab : Tab := fun f => aget tabL f
def owL : List (Nat × List Nat) := []
def ow : Owns := fun f => owg owL f
theorem ow_eq (f : Nat) : ow f = owg owL f := rfl
theorem owLq : owL = [] := rfl
attribute [go_sem] ow_eq owLq
theorem slices_Clone_Li_Ext_i_Ext_n (cap : Nat) : ∃ n, finish a_slices_Clone_Li_Ext_i_Ext 0 (exec (callN (oneT 68 a_slices_Clone_Li_Ext_i_Ext) noOw n) noOw n a_slices_Clone_Li_Ext_i_Ext.body (start [.lit (.slice none 0 cap)] [])) = some (.lit (.slice none 0 0), []) := ⟨9, rfl⟩
theorem slices_Clone_Li_Ext_i_Ext_e (ad : Addr) (cap : Nat) : Call (oneT 68 a_slices_Clone_Li_Ext_i_Ext) noOw 68 [.lit (.slice (some ad) 0 cap)] [] = some (.sl 0 0 0, [⟨2, false, []⟩]) := by
  have h0 : ∀ (h : Heap) (a : Addr), rowsOf h 2 (.lit (.slice (some a) 0 cap)) = some (rws (⟨2, fun _ => []⟩ : En Unit) []) := fun _ _ => rfl
  have h1 : ∀ b (a : Addr), selfB b (.lit (.slice (some a) 0 cap)) = true := fun _ _ => rfl
  have hf : fits 0 16 = true := by decide
  rw [Call_run (af := a_slices_Clone_Li_Ext_i_Ext) (oneT_self _ _)]
  simp +decide only [a_slices_Clone_Li_Ext_i_Ext, b_slices_Clone_Li_Ext_i_Ext, fun k => mk0 (⟨2, fun _ => []⟩ : En Unit) k, inS_lit, h0, h1, hf, go_sem, reduceIte, Nat.reduceAdd]
  rfl
end Go.AI.Fn
