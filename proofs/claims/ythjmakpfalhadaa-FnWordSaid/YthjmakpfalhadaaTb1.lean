/- The table. -/
import Derived.Test.YthjmakpfalhadaaTb0
import Derived.Test.YthjmakpfalhadaaAiW
set_option linter.unusedVariables false
set_option maxRecDepth 100000
namespace Go.AI.Fn
noncomputable def tabL : List (Nat × FDef) := [(8, .code a_w_FnWord), (17, .code a_s_ExtsOf), (21, .code a_w_at), (22, .code a_s_ExtOf), (23, .code a_i_EncodeWord), (24, .code a_i_FoldWord), (26, .code a_i_ExtAdd), (27, .code a_w_sameExts), (45, .code a_s_EncodeWord), (46, .code a_i_IsWord), (47, .code a_w_one), (93, .code a_s_l00Source), (96, .code a_s_l00Src_exts), (99, .code a_i_FieldOK), (100, .code a_i_are_i_Ext), (101, .code a_i_ExtOK), (109, .code a_s_l00Src_ext), (110, .code a_i_wordCode), (111, .code a_i_in), (112, .code a_i_encoded), (113, .code a_i_foldWord), (114, .code a_i_extTwo), (115, .code a_i_Ext_times), (116, .code a_i_Ext_plus), (117, .code a_i_isPower), (118, .code a_i_foldPair), (120, .code a_s_l02List), (124, .code a_s_l02Add), (125, .code a_s_l02Mul), (127, .code a_i_ntt), (128, .code a_s_l07Ask), (129, .code a_s_l07Ntt), (130, .code a_s_l01Root), (131, .code a_s_l06Vars), (132, .code a_i_unNtt), (133, .code a_i_root), (134, .code a_i_pow), (140, .code a_s_l01In), (143, .code a_s_l07Encode), (144, .code a_slices_ContainsFunc_Li_Ext_i_Ext), (145, .code a_i_IsWord_1), (170, .code a_i_Ext_scaled), (200, .code a_s_l00Src_next), (202, .code a_s_l00Src_field), (206, .code a_i_are_i_Ext_1), (209, .code a_i_Ext_minus), (210, .code a_s_l00Src_chance), (211, .code a_i_add), (212, .code a_i_mul), (213, .code a_i_inverse), (214, .code a_i_logOf), (216, .code a_s_ExtOK), (219, .code a_s_l01Add), (220, .code a_s_l01Mul), (222, .code a_i_values), (223, .code a_s_l07Size), (224, .code a_s_l02Of), (225, .code a_s_l02Sub), (226, .code a_s_l01Pow), (234, .code a_slices_IndexFunc_Li_Ext_i_Ext), (238, .code a_s_FieldOK), (245, .code a_s_l04Power), (264, .code a_s_l00Src_byte), (266, .code a_i_sub), (267, .code a_math_bits_Len), (268, .ext (cloneO 268 a_slices_Clone_Li_Ext_i_Ext 2)), (269, .code a_s_l01Sub), (289, .code a_math_bits_Len64)]
noncomputable def tab : Tab := fun f => aget tabL f
def owL : List (Nat × List Nat) := []
def ow : Owns := fun f => (aget owL f).getD []
theorem run_w_FnWord (a : List V) (b : List Blk) : Call tab ow 8 a b = Rn tab ow (endK ⟨156, b_w_FnWord, [.tmp 4], .false, .false⟩ b.length) [.code b_w_FnWord] (start a b) := Call_run (af := a_w_FnWord) rfl a b
theorem ow_w_FnWord : ow 8 = [] := rfl
theorem run_s_ExtsOf (a : List V) (b : List Blk) : Call tab ow 17 a b = Rn tab ow (endK ⟨9, b_s_ExtsOf, [.tmp 4], .false, .false⟩ b.length) [.code b_s_ExtsOf] (start a b) := Call_run (af := a_s_ExtsOf) rfl a b
theorem ow_s_ExtsOf : ow 17 = [] := rfl
theorem run_w_at (a : List V) (b : List Blk) : Call tab ow 21 a b = Rn tab ow (endK ⟨42, b_w_at, [.tmp 6], .false, .false⟩ b.length) [.code b_w_at] (start a b) := Call_run (af := a_w_at) rfl a b
theorem ow_w_at : ow 21 = [] := rfl
theorem run_s_ExtOf (a : List V) (b : List Blk) : Call tab ow 22 a b = Rn tab ow (endK ⟨6, b_s_ExtOf, [.cell 2 (.some 2)], .false, .false⟩ b.length) [.code b_s_ExtOf] (start a b) := Call_run (af := a_s_ExtOf) rfl a b
theorem ow_s_ExtOf : ow 22 = [] := rfl
theorem run_i_EncodeWord (a : List V) (b : List Blk) : Call tab ow 23 a b = Rn tab ow (endK ⟨25, b_i_EncodeWord, [.tmp 4, .tmp 5], .false, .false⟩ b.length) [.code b_i_EncodeWord] (start a b) := Call_run (af := a_i_EncodeWord) rfl a b
theorem ow_i_EncodeWord : ow 23 = [] := rfl
theorem run_i_FoldWord (a : List V) (b : List Blk) : Call tab ow 24 a b = Rn tab ow (endK ⟨23, b_i_FoldWord, [.tmp 4, .tmp 5], .false, .false⟩ b.length) [.code b_i_FoldWord] (start a b) := Call_run (af := a_i_FoldWord) rfl a b
theorem ow_i_FoldWord : ow 24 = [] := rfl
theorem run_i_ExtAdd (a : List V) (b : List Blk) : Call tab ow 26 a b = Rn tab ow (endK ⟨11, b_i_ExtAdd, [.cell 4 (.some 2), .tmp 5], .false, .false⟩ b.length) [.code b_i_ExtAdd] (start a b) := Call_run (af := a_i_ExtAdd) rfl a b
theorem ow_i_ExtAdd : ow 26 = [] := rfl
theorem run_w_sameExts (a : List V) (b : List Blk) : Call tab ow 27 a b = Rn tab ow (endK ⟨26, b_w_sameExts, [.tmp 4], .false, .false⟩ b.length) [.code b_w_sameExts] (start a b) := Call_run (af := a_w_sameExts) rfl a b
theorem ow_w_sameExts : ow 27 = [] := rfl
theorem run_s_EncodeWord (a : List V) (b : List Blk) : Call tab ow 45 a b = Rn tab ow (endK ⟨32, b_s_EncodeWord, [.tmp 4, .tmp 5], .false, .false⟩ b.length) [.code b_s_EncodeWord] (start a b) := Call_run (af := a_s_EncodeWord) rfl a b
theorem ow_s_EncodeWord : ow 45 = [] := rfl
theorem run_i_IsWord (a : List V) (b : List Blk) : Call tab ow 46 a b = Rn tab ow (endK ⟨31, b_i_IsWord, [.tmp 4, .tmp 5], .false, .false⟩ b.length) [.code b_i_IsWord] (start a b) := Call_run (af := a_i_IsWord) rfl a b
theorem ow_i_IsWord : ow 46 = [] := rfl
theorem run_w_one (a : List V) (b : List Blk) : Call tab ow 47 a b = Rn tab ow (endK ⟨2, b_w_one, [.cell 0 (.some 2)], .false, .false⟩ b.length) [.code b_w_one] (start a b) := Call_run (af := a_w_one) rfl a b
theorem ow_w_one : ow 47 = [] := rfl
theorem run_s_l00Source (a : List V) (b : List Blk) : Call tab ow 93 a b = Rn tab ow (endK ⟨9, b_s_l00Source, [.tmp 2], .true, .false⟩ b.length) [.code b_s_l00Source] (start a b) := Call_run (af := a_s_l00Source) rfl a b
theorem ow_s_l00Source : ow 93 = [] := rfl
theorem run_s_l00Src_exts (a : List V) (b : List Blk) : Call tab ow 96 a b = Rn tab ow (endK ⟨19, b_s_l00Src_exts, [.tmp 4], .false, .false⟩ b.length) [.code b_s_l00Src_exts] (start a b) := Call_run (af := a_s_l00Src_exts) rfl a b
theorem ow_s_l00Src_exts : ow 96 = [] := rfl
theorem run_i_FieldOK (a : List V) (b : List Blk) : Call tab ow 99 a b = Rn tab ow (endK ⟨5, b_i_FieldOK, [.tmp 2], .false, .false⟩ b.length) [.code b_i_FieldOK] (start a b) := Call_run (af := a_i_FieldOK) rfl a b
theorem ow_i_FieldOK : ow 99 = [] := rfl
theorem run_i_are_i_Ext (a : List V) (b : List Blk) : Call tab ow 100 a b = Rn tab ow (endK ⟨9, b_i_are_i_Ext, [.tmp 4], .false, .false⟩ b.length) [.code b_i_are_i_Ext] (start a b) := Call_run (af := a_i_are_i_Ext) rfl a b
theorem ow_i_are_i_Ext : ow 100 = [] := rfl
theorem run_i_ExtOK (a : List V) (b : List Blk) : Call tab ow 101 a b = Rn tab ow (endK ⟨11, b_i_ExtOK, [.tmp 2], .false, .false⟩ b.length) [.code b_i_ExtOK] (start a b) := Call_run (af := a_i_ExtOK) rfl a b
theorem ow_i_ExtOK : ow 101 = [] := rfl
theorem run_s_l00Src_ext (a : List V) (b : List Blk) : Call tab ow 109 a b = Rn tab ow (endK ⟨13, b_s_l00Src_ext, [.cell 2 (.some 2)], .false, .false⟩ b.length) [.code b_s_l00Src_ext] (start a b) := Call_run (af := a_s_l00Src_ext) rfl a b
theorem ow_s_l00Src_ext : ow 109 = [] := rfl
theorem run_i_wordCode (a : List V) (b : List Blk) : Call tab ow 110 a b = Rn tab ow (endK ⟨16, b_i_wordCode, [.tmp 2], .false, .false⟩ b.length) [.code b_i_wordCode] (start a b) := Call_run (af := a_i_wordCode) rfl a b
theorem ow_i_wordCode : ow 110 = [] := rfl
theorem run_i_in (a : List V) (b : List Blk) : Call tab ow 111 a b = Rn tab ow (endK ⟨15, b_i_in, [.tmp 6], .false, .false⟩ b.length) [.code b_i_in] (start a b) := Call_run (af := a_i_in) rfl a b
theorem ow_i_in : ow 111 = [] := rfl
theorem run_i_encoded (a : List V) (b : List Blk) : Call tab ow 112 a b = Rn tab ow (endK ⟨16, b_i_encoded, [.tmp 4], .false, .false⟩ b.length) [.code b_i_encoded] (start a b) := Call_run (af := a_i_encoded) rfl a b
theorem ow_i_encoded : ow 112 = [] := rfl
theorem run_i_foldWord (a : List V) (b : List Blk) : Call tab ow 113 a b = Rn tab ow (endK ⟨36, b_i_foldWord, [.tmp 4], .false, .false⟩ b.length) [.code b_i_foldWord] (start a b) := Call_run (af := a_i_foldWord) rfl a b
theorem ow_i_foldWord : ow 113 = [] := rfl
theorem run_i_extTwo (a : List V) (b : List Blk) : Call tab ow 114 a b = Rn tab ow (endK ⟨21, b_i_extTwo, [.cell 6 (.some 2), .tmp 7], .false, .false⟩ b.length) [.code b_i_extTwo] (start a b) := Call_run (af := a_i_extTwo) rfl a b
theorem ow_i_extTwo : ow 114 = [] := rfl
theorem run_i_Ext_times (a : List V) (b : List Blk) : Call tab ow 115 a b = Rn tab ow (endK ⟨29, b_i_Ext_times, [.cell 4 (.some 2)], .false, .false⟩ b.length) [.code b_i_Ext_times] (start a b) := Call_run (af := a_i_Ext_times) rfl a b
theorem ow_i_Ext_times : ow 115 = [] := rfl
theorem run_i_Ext_plus (a : List V) (b : List Blk) : Call tab ow 116 a b = Rn tab ow (endK ⟨16, b_i_Ext_plus, [.cell 4 (.some 2)], .false, .false⟩ b.length) [.code b_i_Ext_plus] (start a b) := Call_run (af := a_i_Ext_plus) rfl a b
theorem ow_i_Ext_plus : ow 116 = [] := rfl
theorem run_i_isPower (a : List V) (b : List Blk) : Call tab ow 117 a b = Rn tab ow (endK ⟨15, b_i_isPower, [.tmp 4], .false, .false⟩ b.length) [.code b_i_isPower] (start a b) := Call_run (af := a_i_isPower) rfl a b
theorem ow_i_isPower : ow 117 = [] := rfl
theorem run_i_foldPair (a : List V) (b : List Blk) : Call tab ow 118 a b = Rn tab ow (endK ⟨35, b_i_foldPair, [.cell 10 (.some 2)], .false, .false⟩ b.length) [.code b_i_foldPair] (start a b) := Call_run (af := a_i_foldPair) rfl a b
theorem ow_i_foldPair : ow 118 = [] := rfl
theorem run_s_l02List (a : List V) (b : List Blk) : Call tab ow 120 a b = Rn tab ow (endK ⟨16, b_s_l02List, [.tmp 2], .false, .false⟩ b.length) [.code b_s_l02List] (start a b) := Call_run (af := a_s_l02List) rfl a b
theorem ow_s_l02List : ow 120 = [] := rfl
theorem run_s_l02Add (a : List V) (b : List Blk) : Call tab ow 124 a b = Rn tab ow (endK ⟨16, b_s_l02Add, [.cell 4 (.some 2)], .false, .false⟩ b.length) [.code b_s_l02Add] (start a b) := Call_run (af := a_s_l02Add) rfl a b
theorem ow_s_l02Add : ow 124 = [] := rfl
theorem run_s_l02Mul (a : List V) (b : List Blk) : Call tab ow 125 a b = Rn tab ow (endK ⟨30, b_s_l02Mul, [.cell 4 (.some 2)], .false, .false⟩ b.length) [.code b_s_l02Mul] (start a b) := Call_run (af := a_s_l02Mul) rfl a b
theorem ow_s_l02Mul : ow 125 = [] := rfl
theorem run_i_ntt (a : List V) (b : List Blk) : Call tab ow 127 a b = Rn tab ow (endK ⟨9, b_i_ntt, [.tmp 2], .false, .false⟩ b.length) [.code b_i_ntt] (start a b) := Call_run (af := a_i_ntt) rfl a b
theorem ow_i_ntt : ow 127 = [] := rfl
theorem run_s_l07Ask (a : List V) (b : List Blk) : Call tab ow 128 a b = Rn tab ow (endK ⟨16, b_s_l07Ask, [.tmp 2], .false, .false⟩ b.length) [.code b_s_l07Ask] (start a b) := Call_run (af := a_s_l07Ask) rfl a b
theorem ow_s_l07Ask : ow 128 = [] := rfl
theorem run_s_l07Ntt (a : List V) (b : List Blk) : Call tab ow 129 a b = Rn tab ow (endK ⟨94, b_s_l07Ntt, [.tmp 4], .false, .false⟩ b.length) [.code b_s_l07Ntt] (start a b) := Call_run (af := a_s_l07Ntt) rfl a b
theorem ow_s_l07Ntt : ow 129 = [] := rfl
theorem run_s_l01Root (a : List V) (b : List Blk) : Call tab ow 130 a b = Rn tab ow (endK ⟨8, b_s_l01Root, [.tmp 2], .false, .false⟩ b.length) [.code b_s_l01Root] (start a b) := Call_run (af := a_s_l01Root) rfl a b
theorem ow_s_l01Root : ow 130 = [] := rfl
theorem run_s_l06Vars (a : List V) (b : List Blk) : Call tab ow 131 a b = Rn tab ow (endK ⟨12, b_s_l06Vars, [.tmp 2], .false, .false⟩ b.length) [.code b_s_l06Vars] (start a b) := Call_run (af := a_s_l06Vars) rfl a b
theorem ow_s_l06Vars : ow 131 = [] := rfl
theorem run_i_unNtt (a : List V) (b : List Blk) : Call tab ow 132 a b = Rn tab ow (endK ⟨32, b_i_unNtt, [.tmp 2], .false, .false⟩ b.length) [.code b_i_unNtt] (start a b) := Call_run (af := a_i_unNtt) rfl a b
theorem ow_i_unNtt : ow 132 = [] := rfl
theorem run_i_root (a : List V) (b : List Blk) : Call tab ow 133 a b = Rn tab ow (endK ⟨7, b_i_root, [.tmp 2], .false, .false⟩ b.length) [.code b_i_root] (start a b) := Call_run (af := a_i_root) rfl a b
theorem ow_i_root : ow 133 = [] := rfl
theorem run_i_pow (a : List V) (b : List Blk) : Call tab ow 134 a b = Rn tab ow (endK ⟨20, b_i_pow, [.tmp 4], .false, .false⟩ b.length) [.code b_i_pow] (start a b) := Call_run (af := a_i_pow) rfl a b
theorem ow_i_pow : ow 134 = [] := rfl
theorem run_s_l01In (a : List V) (b : List Blk) : Call tab ow 140 a b = Rn tab ow (endK ⟨15, b_s_l01In, [.tmp 6], .false, .false⟩ b.length) [.code b_s_l01In] (start a b) := Call_run (af := a_s_l01In) rfl a b
theorem ow_s_l01In : ow 140 = [] := rfl
theorem run_s_l07Encode (a : List V) (b : List Blk) : Call tab ow 143 a b = Rn tab ow (endK ⟨25, b_s_l07Encode, [.tmp 4], .false, .false⟩ b.length) [.code b_s_l07Encode] (start a b) := Call_run (af := a_s_l07Encode) rfl a b
theorem ow_s_l07Encode : ow 143 = [] := rfl
theorem run_slices_ContainsFunc_Li_Ext_i_Ext (a : List V) (b : List Blk) : Call tab ow 144 a b = Rn tab ow (endK ⟨9, b_slices_ContainsFunc_Li_Ext_i_Ext, [.tmp 4], .false, .false⟩ b.length) [.code b_slices_ContainsFunc_Li_Ext_i_Ext] (start a b) := Call_run (af := a_slices_ContainsFunc_Li_Ext_i_Ext) rfl a b
theorem ow_slices_ContainsFunc_Li_Ext_i_Ext : ow 144 = [] := rfl
theorem run_i_IsWord_1 (a : List V) (b : List Blk) : Call tab ow 145 a b = Rn tab ow (endK ⟨6, b_i_IsWord_1, [.tmp 2], .false, .false⟩ b.length) [.code b_i_IsWord_1] (start a b) := Call_run (af := a_i_IsWord_1) rfl a b
theorem ow_i_IsWord_1 : ow 145 = [] := rfl
theorem run_i_Ext_scaled (a : List V) (b : List Blk) : Call tab ow 170 a b = Rn tab ow (endK ⟨14, b_i_Ext_scaled, [.cell 4 (.some 2)], .false, .false⟩ b.length) [.code b_i_Ext_scaled] (start a b) := Call_run (af := a_i_Ext_scaled) rfl a b
theorem ow_i_Ext_scaled : ow 170 = [] := rfl
theorem run_s_l00Src_next (a : List V) (b : List Blk) : Call tab ow 200 a b = Rn tab ow (endK ⟨31, b_s_l00Src_next, [.tmp 4], .false, .false⟩ b.length) [.code b_s_l00Src_next] (start a b) := Call_run (af := a_s_l00Src_next) rfl a b
theorem ow_s_l00Src_next : ow 200 = [] := rfl
theorem run_s_l00Src_field (a : List V) (b : List Blk) : Call tab ow 202 a b = Rn tab ow (endK ⟨27, b_s_l00Src_field, [.tmp 2], .false, .false⟩ b.length) [.code b_s_l00Src_field] (start a b) := Call_run (af := a_s_l00Src_field) rfl a b
theorem ow_s_l00Src_field : ow 202 = [] := rfl
theorem run_i_are_i_Ext_1 (a : List V) (b : List Blk) : Call tab ow 206 a b = Rn tab ow (endK ⟨8, b_i_are_i_Ext_1, [.tmp 3], .false, .false⟩ b.length) [.code b_i_are_i_Ext_1] (start a b) := Call_run (af := a_i_are_i_Ext_1) rfl a b
theorem ow_i_are_i_Ext_1 : ow 206 = [] := rfl
theorem run_i_Ext_minus (a : List V) (b : List Blk) : Call tab ow 209 a b = Rn tab ow (endK ⟨16, b_i_Ext_minus, [.cell 4 (.some 2)], .false, .false⟩ b.length) [.code b_i_Ext_minus] (start a b) := Call_run (af := a_i_Ext_minus) rfl a b
theorem ow_i_Ext_minus : ow 209 = [] := rfl
theorem run_s_l00Src_chance (a : List V) (b : List Blk) : Call tab ow 210 a b = Rn tab ow (endK ⟨11, b_s_l00Src_chance, [.tmp 4], .false, .false⟩ b.length) [.code b_s_l00Src_chance] (start a b) := Call_run (af := a_s_l00Src_chance) rfl a b
theorem ow_s_l00Src_chance : ow 210 = [] := rfl
theorem run_i_add (a : List V) (b : List Blk) : Call tab ow 211 a b = Rn tab ow (endK ⟨9, b_i_add, [.tmp 4], .false, .false⟩ b.length) [.code b_i_add] (start a b) := Call_run (af := a_i_add) rfl a b
theorem ow_i_add : ow 211 = [] := rfl
theorem run_i_mul (a : List V) (b : List Blk) : Call tab ow 212 a b = Rn tab ow (endK ⟨9, b_i_mul, [.tmp 4], .false, .false⟩ b.length) [.code b_i_mul] (start a b) := Call_run (af := a_i_mul) rfl a b
theorem ow_i_mul : ow 212 = [] := rfl
theorem run_i_inverse (a : List V) (b : List Blk) : Call tab ow 213 a b = Rn tab ow (endK ⟨5, b_i_inverse, [.tmp 2], .false, .false⟩ b.length) [.code b_i_inverse] (start a b) := Call_run (af := a_i_inverse) rfl a b
theorem ow_i_inverse : ow 213 = [] := rfl
theorem run_i_logOf (a : List V) (b : List Blk) : Call tab ow 214 a b = Rn tab ow (endK ⟨7, b_i_logOf, [.tmp 2], .false, .false⟩ b.length) [.code b_i_logOf] (start a b) := Call_run (af := a_i_logOf) rfl a b
theorem ow_i_logOf : ow 214 = [] := rfl
theorem run_s_ExtOK (a : List V) (b : List Blk) : Call tab ow 216 a b = Rn tab ow (endK ⟨11, b_s_ExtOK, [.tmp 2], .false, .false⟩ b.length) [.code b_s_ExtOK] (start a b) := Call_run (af := a_s_ExtOK) rfl a b
theorem ow_s_ExtOK : ow 216 = [] := rfl
theorem run_s_l01Add (a : List V) (b : List Blk) : Call tab ow 219 a b = Rn tab ow (endK ⟨9, b_s_l01Add, [.tmp 4], .false, .false⟩ b.length) [.code b_s_l01Add] (start a b) := Call_run (af := a_s_l01Add) rfl a b
theorem ow_s_l01Add : ow 219 = [] := rfl
theorem run_s_l01Mul (a : List V) (b : List Blk) : Call tab ow 220 a b = Rn tab ow (endK ⟨9, b_s_l01Mul, [.tmp 4], .false, .false⟩ b.length) [.code b_s_l01Mul] (start a b) := Call_run (af := a_s_l01Mul) rfl a b
theorem ow_s_l01Mul : ow 220 = [] := rfl
theorem run_i_values (a : List V) (b : List Blk) : Call tab ow 222 a b = Rn tab ow (endK ⟨93, b_i_values, [.tmp 4], .true, .false⟩ b.length) [.code b_i_values] (start a b) := Call_run (af := a_i_values) rfl a b
theorem ow_i_values : ow 222 = [] := rfl
theorem run_s_l07Size (a : List V) (b : List Blk) : Call tab ow 223 a b = Rn tab ow (endK ⟨5, b_s_l07Size, [.tmp 2], .false, .false⟩ b.length) [.code b_s_l07Size] (start a b) := Call_run (af := a_s_l07Size) rfl a b
theorem ow_s_l07Size : ow 223 = [] := rfl
theorem run_s_l02Of (a : List V) (b : List Blk) : Call tab ow 224 a b = Rn tab ow (endK ⟨5, b_s_l02Of, [.cell 2 (.some 2)], .false, .false⟩ b.length) [.code b_s_l02Of] (start a b) := Call_run (af := a_s_l02Of) rfl a b
theorem ow_s_l02Of : ow 224 = [] := rfl
theorem run_s_l02Sub (a : List V) (b : List Blk) : Call tab ow 225 a b = Rn tab ow (endK ⟨16, b_s_l02Sub, [.cell 4 (.some 2)], .false, .false⟩ b.length) [.code b_s_l02Sub] (start a b) := Call_run (af := a_s_l02Sub) rfl a b
theorem ow_s_l02Sub : ow 225 = [] := rfl
theorem run_s_l01Pow (a : List V) (b : List Blk) : Call tab ow 226 a b = Rn tab ow (endK ⟨20, b_s_l01Pow, [.tmp 4], .false, .false⟩ b.length) [.code b_s_l01Pow] (start a b) := Call_run (af := a_s_l01Pow) rfl a b
theorem ow_s_l01Pow : ow 226 = [] := rfl
theorem run_slices_IndexFunc_Li_Ext_i_Ext (a : List V) (b : List Blk) : Call tab ow 234 a b = Rn tab ow (endK ⟨19, b_slices_IndexFunc_Li_Ext_i_Ext, [.tmp 4], .false, .false⟩ b.length) [.code b_slices_IndexFunc_Li_Ext_i_Ext] (start a b) := Call_run (af := a_slices_IndexFunc_Li_Ext_i_Ext) rfl a b
theorem ow_slices_IndexFunc_Li_Ext_i_Ext : ow 234 = [] := rfl
theorem run_s_FieldOK (a : List V) (b : List Blk) : Call tab ow 238 a b = Rn tab ow (endK ⟨5, b_s_FieldOK, [.tmp 2], .false, .false⟩ b.length) [.code b_s_FieldOK] (start a b) := Call_run (af := a_s_FieldOK) rfl a b
theorem ow_s_FieldOK : ow 238 = [] := rfl
theorem run_s_l04Power (a : List V) (b : List Blk) : Call tab ow 245 a b = Rn tab ow (endK ⟨14, b_s_l04Power, [.tmp 4], .false, .false⟩ b.length) [.code b_s_l04Power] (start a b) := Call_run (af := a_s_l04Power) rfl a b
theorem ow_s_l04Power : ow 245 = [] := rfl
theorem run_s_l00Src_byte (a : List V) (b : List Blk) : Call tab ow 264 a b = Rn tab ow (endK ⟨76, b_s_l00Src_byte, [.tmp 2], .false, .false⟩ b.length) [.code b_s_l00Src_byte] (start a b) := Call_run (af := a_s_l00Src_byte) rfl a b
theorem ow_s_l00Src_byte : ow 264 = [] := rfl
theorem run_i_sub (a : List V) (b : List Blk) : Call tab ow 266 a b = Rn tab ow (endK ⟨10, b_i_sub, [.tmp 4], .false, .false⟩ b.length) [.code b_i_sub] (start a b) := Call_run (af := a_i_sub) rfl a b
theorem ow_i_sub : ow 266 = [] := rfl
theorem run_math_bits_Len (a : List V) (b : List Blk) : Call tab ow 267 a b = Rn tab ow (endK ⟨8, b_math_bits_Len, [.tmp 2], .false, .false⟩ b.length) [.code b_math_bits_Len] (start a b) := Call_run (af := a_math_bits_Len) rfl a b
theorem ow_math_bits_Len : ow 267 = [] := rfl
theorem ow_slices_Clone_Li_Ext_i_Ext : ow 268 = [] := rfl
theorem run_s_l01Sub (a : List V) (b : List Blk) : Call tab ow 269 a b = Rn tab ow (endK ⟨10, b_s_l01Sub, [.tmp 4], .false, .false⟩ b.length) [.code b_s_l01Sub] (start a b) := Call_run (af := a_s_l01Sub) rfl a b
theorem ow_s_l01Sub : ow 269 = [] := rfl
theorem run_math_bits_Len64 (a : List V) (b : List Blk) : Call tab ow 289 a b = Rn tab ow (endK ⟨25, b_math_bits_Len64, [.tmp 2], .false, .false⟩ b.length) [.code b_math_bits_Len64] (start a b) := Call_run (af := a_math_bits_Len64) rfl a b
theorem ow_math_bits_Len64 : ow 289 = [] := rfl
theorem slices_Clone_Li_Ext_i_Ext_n (cap : Nat) : ∃ n, finish a_slices_Clone_Li_Ext_i_Ext 0 (exec (callN (oneT 268 a_slices_Clone_Li_Ext_i_Ext) noOw n) noOw n a_slices_Clone_Li_Ext_i_Ext.body (start [.lit (.slice none 0 cap)] [])) = some (.lit (.slice none 0 0), []) := ⟨9, rfl⟩
theorem slices_Clone_Li_Ext_i_Ext_e (ad : Addr) (cap : Nat) : Call (oneT 268 a_slices_Clone_Li_Ext_i_Ext) noOw 268 [.lit (.slice (some ad) 0 cap)] [] = some (.sl 0 0 0, [⟨2, false, []⟩]) := by
  have h0 : ∀ (h : Heap) (a : Addr), rowsOf h 2 (.lit (.slice (some a) 0 cap)) = some (rws (⟨2, fun _ => []⟩ : En Unit) []) := fun _ _ => rfl
  have h1 : ∀ b (a : Addr), selfB b (.lit (.slice (some a) 0 cap)) = true := fun _ _ => rfl
  have hf : fits 0 16 = true := by decide
  rw [Call_run (af := a_slices_Clone_Li_Ext_i_Ext) (oneT_self _ _)]
  simp +decide only [a_slices_Clone_Li_Ext_i_Ext, b_slices_Clone_Li_Ext_i_Ext, fun k => mk0 (⟨2, fun _ => []⟩ : En Unit) k, inS_lit, h0, h1, hf, go_sem, reduceIte, Nat.reduceAdd]
  rfl
attribute [go_sem] ow_w_FnWord ow_s_ExtsOf ow_w_at ow_s_ExtOf ow_i_EncodeWord ow_i_FoldWord ow_i_ExtAdd ow_w_sameExts ow_s_EncodeWord ow_i_IsWord
attribute [go_sem] ow_w_one ow_s_l00Source ow_s_l00Src_exts ow_i_FieldOK ow_i_are_i_Ext ow_i_ExtOK ow_s_l00Src_ext ow_i_wordCode ow_i_in ow_i_encoded
attribute [go_sem] ow_i_foldWord ow_i_extTwo ow_i_Ext_times ow_i_Ext_plus ow_i_isPower ow_i_foldPair ow_s_l02List ow_s_l02Add ow_s_l02Mul ow_i_ntt
attribute [go_sem] ow_s_l07Ask ow_s_l07Ntt ow_s_l01Root ow_s_l06Vars ow_i_unNtt ow_i_root ow_i_pow ow_s_l01In ow_s_l07Encode ow_slices_ContainsFunc_Li_Ext_i_Ext
attribute [go_sem] ow_i_IsWord_1 ow_i_Ext_scaled ow_s_l00Src_next ow_s_l00Src_field ow_i_are_i_Ext_1 ow_i_Ext_minus ow_s_l00Src_chance ow_i_add ow_i_mul ow_i_inverse
attribute [go_sem] ow_i_logOf ow_s_ExtOK ow_s_l01Add ow_s_l01Mul ow_i_values ow_s_l07Size ow_s_l02Of ow_s_l02Sub ow_s_l01Pow ow_slices_IndexFunc_Li_Ext_i_Ext
attribute [go_sem] ow_s_FieldOK ow_s_l04Power ow_s_l00Src_byte ow_i_sub ow_math_bits_Len ow_slices_Clone_Li_Ext_i_Ext ow_s_l01Sub ow_math_bits_Len64
end Go.AI.Fn
