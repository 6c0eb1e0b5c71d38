/- The table. -/
import Derived.Test.YthjmakpfalhadaaTb0
import Derived.Test.YthjmakpfalhadaaAiW
set_option linter.unusedVariables false
set_option maxRecDepth 100000
namespace Go.AI.Fn
def tabL : List (Nat × FDef) := [(5, .code a_w_FnExtBytes), (17, .code a_s_ExtsOf), (21, .code a_w_at), (25, .code a_i_ExtMul), (26, .code a_i_ExtAdd), (27, .code a_w_sameExts), (29, .code a_i_ExtBytes), (30, .code a_s_ExtBytes), (31, .code a_i_ReadExts), (32, .code a_i_ExtDot), (33, .code a_s_ExtDot), (34, .code a_s_ReadExts), (93, .code a_s_l00Source), (96, .code a_s_l00Src_exts), (99, .code a_i_FieldOK), (100, .code a_i_are_i_Ext), (101, .code a_i_ExtOK), (107, .code a_i_dot), (109, .code a_s_l00Src_ext), (111, .code a_i_in), (114, .code a_i_extTwo), (115, .code a_i_Ext_times), (116, .code a_i_Ext_plus), (119, .code a_i_extBytes), (120, .code a_s_l02List), (121, .code a_s_l02Bytes), (122, .code a_i_readExts), (123, .code a_i_areLists), (124, .code a_s_l02Add), (125, .code a_s_l02Mul), (126, .code a_s_l02Read), (140, .code a_s_l01In), (144, .code a_slices_ContainsFunc_Li_Ext_i_Ext), (200, .code a_s_l00Src_next), (202, .code a_s_l00Src_field), (206, .code a_i_are_i_Ext_1), (210, .code a_s_l00Src_chance), (211, .code a_i_add), (212, .code a_i_mul), (215, .code a_i_four), (216, .code a_s_ExtOK), (217, .code a_s_l02Number), (218, .code a_i_number), (219, .code a_s_l01Add), (220, .code a_s_l01Mul), (221, .code a_s_l02Four), (234, .code a_slices_IndexFunc_Li_Ext_i_Ext), (238, .code a_s_FieldOK), (264, .code a_s_l00Src_byte)]
def tab : Tab := fun f => aget tabL f
def owL : List (Nat × List Nat) := [(215, [0, 1000])]
def ow : Owns := fun f => (aget owL f).getD []
theorem run_w_FnExtBytes (a : List V) (b : List Blk) : Call tab ow 5 a b = Rn tab ow (endK ⟨173, b_w_FnExtBytes, [.tmp 4], .false, .false⟩ b.length) [.code b_w_FnExtBytes] (start a b) := Call_run (af := a_w_FnExtBytes) rfl a b
theorem ow_w_FnExtBytes : ow 5 = [] := rfl
theorem run_s_ExtsOf (a : List V) (b : List Blk) : Call tab ow 17 a b = Rn tab ow (endK ⟨9, b_s_ExtsOf, [.tmp 4], .false, .false⟩ b.length) [.code b_s_ExtsOf] (start a b) := Call_run (af := a_s_ExtsOf) rfl a b
theorem ow_s_ExtsOf : ow 17 = [] := rfl
theorem run_w_at (a : List V) (b : List Blk) : Call tab ow 21 a b = Rn tab ow (endK ⟨42, b_w_at, [.tmp 6], .false, .false⟩ b.length) [.code b_w_at] (start a b) := Call_run (af := a_w_at) rfl a b
theorem ow_w_at : ow 21 = [] := rfl
theorem run_i_ExtMul (a : List V) (b : List Blk) : Call tab ow 25 a b = Rn tab ow (endK ⟨11, b_i_ExtMul, [.cell 4 (.some 2), .tmp 5], .false, .false⟩ b.length) [.code b_i_ExtMul] (start a b) := Call_run (af := a_i_ExtMul) rfl a b
theorem ow_i_ExtMul : ow 25 = [] := rfl
theorem run_i_ExtAdd (a : List V) (b : List Blk) : Call tab ow 26 a b = Rn tab ow (endK ⟨11, b_i_ExtAdd, [.cell 4 (.some 2), .tmp 5], .false, .false⟩ b.length) [.code b_i_ExtAdd] (start a b) := Call_run (af := a_i_ExtAdd) rfl a b
theorem ow_i_ExtAdd : ow 26 = [] := rfl
theorem run_w_sameExts (a : List V) (b : List Blk) : Call tab ow 27 a b = Rn tab ow (endK ⟨26, b_w_sameExts, [.tmp 4], .false, .false⟩ b.length) [.code b_w_sameExts] (start a b) := Call_run (af := a_w_sameExts) rfl a b
theorem ow_w_sameExts : ow 27 = [] := rfl
theorem run_i_ExtBytes (a : List V) (b : List Blk) : Call tab ow 29 a b = Rn tab ow (endK ⟨14, b_i_ExtBytes, [.tmp 2, .tmp 3], .false, .false⟩ b.length) [.code b_i_ExtBytes] (start a b) := Call_run (af := a_i_ExtBytes) rfl a b
theorem ow_i_ExtBytes : ow 29 = [] := rfl
theorem run_s_ExtBytes (a : List V) (b : List Blk) : Call tab ow 30 a b = Rn tab ow (endK ⟨14, b_s_ExtBytes, [.tmp 2, .tmp 3], .false, .false⟩ b.length) [.code b_s_ExtBytes] (start a b) := Call_run (af := a_s_ExtBytes) rfl a b
theorem ow_s_ExtBytes : ow 30 = [] := rfl
theorem run_i_ReadExts (a : List V) (b : List Blk) : Call tab ow 31 a b = Rn tab ow (endK ⟨22, b_i_ReadExts, [.tmp 2, .tmp 3], .false, .false⟩ b.length) [.code b_i_ReadExts] (start a b) := Call_run (af := a_i_ReadExts) rfl a b
theorem ow_i_ReadExts : ow 31 = [] := rfl
theorem run_i_ExtDot (a : List V) (b : List Blk) : Call tab ow 32 a b = Rn tab ow (endK ⟨23, b_i_ExtDot, [.cell 4 (.some 2), .tmp 5], .false, .false⟩ b.length) [.code b_i_ExtDot] (start a b) := Call_run (af := a_i_ExtDot) rfl a b
theorem ow_i_ExtDot : ow 32 = [] := rfl
theorem run_s_ExtDot (a : List V) (b : List Blk) : Call tab ow 33 a b = Rn tab ow (endK ⟨51, b_s_ExtDot, [.cell 4 (.some 2), .tmp 5], .false, .false⟩ b.length) [.code b_s_ExtDot] (start a b) := Call_run (af := a_s_ExtDot) rfl a b
theorem ow_s_ExtDot : ow 33 = [] := rfl
theorem run_s_ReadExts (a : List V) (b : List Blk) : Call tab ow 34 a b = Rn tab ow (endK ⟨24, b_s_ReadExts, [.tmp 2, .tmp 3], .false, .false⟩ b.length) [.code b_s_ReadExts] (start a b) := Call_run (af := a_s_ReadExts) rfl a b
theorem ow_s_ReadExts : ow 34 = [] := rfl
theorem run_s_l00Source (a : List V) (b : List Blk) : Call tab ow 93 a b = Rn tab ow (endK ⟨9, b_s_l00Source, [.tmp 2], .true, .false⟩ b.length) [.code b_s_l00Source] (start a b) := Call_run (af := a_s_l00Source) rfl a b
theorem ow_s_l00Source : ow 93 = [] := rfl
theorem run_s_l00Src_exts (a : List V) (b : List Blk) : Call tab ow 96 a b = Rn tab ow (endK ⟨19, b_s_l00Src_exts, [.tmp 4], .false, .false⟩ b.length) [.code b_s_l00Src_exts] (start a b) := Call_run (af := a_s_l00Src_exts) rfl a b
theorem ow_s_l00Src_exts : ow 96 = [] := rfl
theorem run_i_FieldOK (a : List V) (b : List Blk) : Call tab ow 99 a b = Rn tab ow (endK ⟨5, b_i_FieldOK, [.tmp 2], .false, .false⟩ b.length) [.code b_i_FieldOK] (start a b) := Call_run (af := a_i_FieldOK) rfl a b
theorem ow_i_FieldOK : ow 99 = [] := rfl
theorem run_i_are_i_Ext (a : List V) (b : List Blk) : Call tab ow 100 a b = Rn tab ow (endK ⟨9, b_i_are_i_Ext, [.tmp 4], .false, .false⟩ b.length) [.code b_i_are_i_Ext] (start a b) := Call_run (af := a_i_are_i_Ext) rfl a b
theorem ow_i_are_i_Ext : ow 100 = [] := rfl
theorem run_i_ExtOK (a : List V) (b : List Blk) : Call tab ow 101 a b = Rn tab ow (endK ⟨11, b_i_ExtOK, [.tmp 2], .false, .false⟩ b.length) [.code b_i_ExtOK] (start a b) := Call_run (af := a_i_ExtOK) rfl a b
theorem ow_i_ExtOK : ow 101 = [] := rfl
theorem run_i_dot (a : List V) (b : List Blk) : Call tab ow 107 a b = Rn tab ow (endK ⟨26, b_i_dot, [.cell 4 (.some 2)], .false, .false⟩ b.length) [.code b_i_dot] (start a b) := Call_run (af := a_i_dot) rfl a b
theorem ow_i_dot : ow 107 = [] := rfl
theorem run_s_l00Src_ext (a : List V) (b : List Blk) : Call tab ow 109 a b = Rn tab ow (endK ⟨13, b_s_l00Src_ext, [.cell 2 (.some 2)], .false, .false⟩ b.length) [.code b_s_l00Src_ext] (start a b) := Call_run (af := a_s_l00Src_ext) rfl a b
theorem ow_s_l00Src_ext : ow 109 = [] := rfl
theorem run_i_in (a : List V) (b : List Blk) : Call tab ow 111 a b = Rn tab ow (endK ⟨15, b_i_in, [.tmp 6], .false, .false⟩ b.length) [.code b_i_in] (start a b) := Call_run (af := a_i_in) rfl a b
theorem ow_i_in : ow 111 = [] := rfl
theorem run_i_extTwo (a : List V) (b : List Blk) : Call tab ow 114 a b = Rn tab ow (endK ⟨21, b_i_extTwo, [.cell 6 (.some 2), .tmp 7], .false, .false⟩ b.length) [.code b_i_extTwo] (start a b) := Call_run (af := a_i_extTwo) rfl a b
theorem ow_i_extTwo : ow 114 = [] := rfl
theorem run_i_Ext_times (a : List V) (b : List Blk) : Call tab ow 115 a b = Rn tab ow (endK ⟨29, b_i_Ext_times, [.cell 4 (.some 2)], .false, .false⟩ b.length) [.code b_i_Ext_times] (start a b) := Call_run (af := a_i_Ext_times) rfl a b
theorem ow_i_Ext_times : ow 115 = [] := rfl
theorem run_i_Ext_plus (a : List V) (b : List Blk) : Call tab ow 116 a b = Rn tab ow (endK ⟨16, b_i_Ext_plus, [.cell 4 (.some 2)], .false, .false⟩ b.length) [.code b_i_Ext_plus] (start a b) := Call_run (af := a_i_Ext_plus) rfl a b
theorem ow_i_Ext_plus : ow 116 = [] := rfl
theorem run_i_extBytes (a : List V) (b : List Blk) : Call tab ow 119 a b = Rn tab ow (endK ⟨22, b_i_extBytes, [.tmp 2], .false, .false⟩ b.length) [.code b_i_extBytes] (start a b) := Call_run (af := a_i_extBytes) rfl a b
theorem ow_i_extBytes : ow 119 = [] := rfl
theorem run_s_l02List (a : List V) (b : List Blk) : Call tab ow 120 a b = Rn tab ow (endK ⟨16, b_s_l02List, [.tmp 2], .false, .false⟩ b.length) [.code b_s_l02List] (start a b) := Call_run (af := a_s_l02List) rfl a b
theorem ow_s_l02List : ow 120 = [] := rfl
theorem run_s_l02Bytes (a : List V) (b : List Blk) : Call tab ow 121 a b = Rn tab ow (endK ⟨28, b_s_l02Bytes, [.tmp 2], .false, .false⟩ b.length) [.code b_s_l02Bytes] (start a b) := Call_run (af := a_s_l02Bytes) rfl a b
theorem ow_s_l02Bytes : ow 121 = [] := rfl
theorem run_i_readExts (a : List V) (b : List Blk) : Call tab ow 122 a b = Rn tab ow (endK ⟨40, b_i_readExts, [.tmp 2, .tmp 3], .false, .false⟩ b.length) [.code b_i_readExts] (start a b) := Call_run (af := a_i_readExts) rfl a b
theorem ow_i_readExts : ow 122 = [] := rfl
theorem run_i_areLists (a : List V) (b : List Blk) : Call tab ow 123 a b = Rn tab ow (endK ⟨23, b_i_areLists, [.tmp 4], .false, .false⟩ b.length) [.code b_i_areLists] (start a b) := Call_run (af := a_i_areLists) rfl a b
theorem ow_i_areLists : ow 123 = [] := rfl
theorem run_s_l02Add (a : List V) (b : List Blk) : Call tab ow 124 a b = Rn tab ow (endK ⟨16, b_s_l02Add, [.cell 4 (.some 2)], .false, .false⟩ b.length) [.code b_s_l02Add] (start a b) := Call_run (af := a_s_l02Add) rfl a b
theorem ow_s_l02Add : ow 124 = [] := rfl
theorem run_s_l02Mul (a : List V) (b : List Blk) : Call tab ow 125 a b = Rn tab ow (endK ⟨30, b_s_l02Mul, [.cell 4 (.some 2)], .false, .false⟩ b.length) [.code b_s_l02Mul] (start a b) := Call_run (af := a_s_l02Mul) rfl a b
theorem ow_s_l02Mul : ow 125 = [] := rfl
theorem run_s_l02Read (a : List V) (b : List Blk) : Call tab ow 126 a b = Rn tab ow (endK ⟨40, b_s_l02Read, [.tmp 2, .tmp 3], .false, .false⟩ b.length) [.code b_s_l02Read] (start a b) := Call_run (af := a_s_l02Read) rfl a b
theorem ow_s_l02Read : ow 126 = [] := rfl
theorem run_s_l01In (a : List V) (b : List Blk) : Call tab ow 140 a b = Rn tab ow (endK ⟨15, b_s_l01In, [.tmp 6], .false, .false⟩ b.length) [.code b_s_l01In] (start a b) := Call_run (af := a_s_l01In) rfl a b
theorem ow_s_l01In : ow 140 = [] := rfl
theorem run_slices_ContainsFunc_Li_Ext_i_Ext (a : List V) (b : List Blk) : Call tab ow 144 a b = Rn tab ow (endK ⟨9, b_slices_ContainsFunc_Li_Ext_i_Ext, [.tmp 4], .false, .false⟩ b.length) [.code b_slices_ContainsFunc_Li_Ext_i_Ext] (start a b) := Call_run (af := a_slices_ContainsFunc_Li_Ext_i_Ext) rfl a b
theorem ow_slices_ContainsFunc_Li_Ext_i_Ext : ow 144 = [] := rfl
theorem run_s_l00Src_next (a : List V) (b : List Blk) : Call tab ow 200 a b = Rn tab ow (endK ⟨31, b_s_l00Src_next, [.tmp 4], .false, .false⟩ b.length) [.code b_s_l00Src_next] (start a b) := Call_run (af := a_s_l00Src_next) rfl a b
theorem ow_s_l00Src_next : ow 200 = [] := rfl
theorem run_s_l00Src_field (a : List V) (b : List Blk) : Call tab ow 202 a b = Rn tab ow (endK ⟨27, b_s_l00Src_field, [.tmp 2], .false, .false⟩ b.length) [.code b_s_l00Src_field] (start a b) := Call_run (af := a_s_l00Src_field) rfl a b
theorem ow_s_l00Src_field : ow 202 = [] := rfl
theorem run_i_are_i_Ext_1 (a : List V) (b : List Blk) : Call tab ow 206 a b = Rn tab ow (endK ⟨8, b_i_are_i_Ext_1, [.tmp 3], .false, .false⟩ b.length) [.code b_i_are_i_Ext_1] (start a b) := Call_run (af := a_i_are_i_Ext_1) rfl a b
theorem ow_i_are_i_Ext_1 : ow 206 = [] := rfl
theorem run_s_l00Src_chance (a : List V) (b : List Blk) : Call tab ow 210 a b = Rn tab ow (endK ⟨11, b_s_l00Src_chance, [.tmp 4], .false, .false⟩ b.length) [.code b_s_l00Src_chance] (start a b) := Call_run (af := a_s_l00Src_chance) rfl a b
theorem ow_s_l00Src_chance : ow 210 = [] := rfl
theorem run_i_add (a : List V) (b : List Blk) : Call tab ow 211 a b = Rn tab ow (endK ⟨9, b_i_add, [.tmp 4], .false, .false⟩ b.length) [.code b_i_add] (start a b) := Call_run (af := a_i_add) rfl a b
theorem ow_i_add : ow 211 = [] := rfl
theorem run_i_mul (a : List V) (b : List Blk) : Call tab ow 212 a b = Rn tab ow (endK ⟨9, b_i_mul, [.tmp 4], .false, .false⟩ b.length) [.code b_i_mul] (start a b) := Call_run (af := a_i_mul) rfl a b
theorem ow_i_mul : ow 212 = [] := rfl
theorem run_i_four (a : List V) (b : List Blk) : Call tab ow 215 a b = Rn tab ow (endK ⟨19, b_i_four, [.tmp 4], .false, .false⟩ b.length) [.code b_i_four] (start a b) := Call_run (af := a_i_four) rfl a b
theorem ow_i_four : ow 215 = [0, 1000] := rfl
theorem run_s_ExtOK (a : List V) (b : List Blk) : Call tab ow 216 a b = Rn tab ow (endK ⟨11, b_s_ExtOK, [.tmp 2], .false, .false⟩ b.length) [.code b_s_ExtOK] (start a b) := Call_run (af := a_s_ExtOK) rfl a b
theorem ow_s_ExtOK : ow 216 = [] := rfl
theorem run_s_l02Number (a : List V) (b : List Blk) : Call tab ow 217 a b = Rn tab ow (endK ⟨24, b_s_l02Number, [.tmp 4], .false, .false⟩ b.length) [.code b_s_l02Number] (start a b) := Call_run (af := a_s_l02Number) rfl a b
theorem ow_s_l02Number : ow 217 = [] := rfl
theorem run_i_number (a : List V) (b : List Blk) : Call tab ow 218 a b = Rn tab ow (endK ⟨19, b_i_number, [.tmp 2], .false, .false⟩ b.length) [.code b_i_number] (start a b) := Call_run (af := a_i_number) rfl a b
theorem ow_i_number : ow 218 = [] := rfl
theorem run_s_l01Add (a : List V) (b : List Blk) : Call tab ow 219 a b = Rn tab ow (endK ⟨9, b_s_l01Add, [.tmp 4], .false, .false⟩ b.length) [.code b_s_l01Add] (start a b) := Call_run (af := a_s_l01Add) rfl a b
theorem ow_s_l01Add : ow 219 = [] := rfl
theorem run_s_l01Mul (a : List V) (b : List Blk) : Call tab ow 220 a b = Rn tab ow (endK ⟨9, b_s_l01Mul, [.tmp 4], .false, .false⟩ b.length) [.code b_s_l01Mul] (start a b) := Call_run (af := a_s_l01Mul) rfl a b
theorem ow_s_l01Mul : ow 220 = [] := rfl
theorem run_s_l02Four (a : List V) (b : List Blk) : Call tab ow 221 a b = Rn tab ow (endK ⟨17, b_s_l02Four, [.tmp 2], .false, .false⟩ b.length) [.code b_s_l02Four] (start a b) := Call_run (af := a_s_l02Four) rfl a b
theorem ow_s_l02Four : ow 221 = [] := rfl
theorem run_slices_IndexFunc_Li_Ext_i_Ext (a : List V) (b : List Blk) : Call tab ow 234 a b = Rn tab ow (endK ⟨19, b_slices_IndexFunc_Li_Ext_i_Ext, [.tmp 4], .false, .false⟩ b.length) [.code b_slices_IndexFunc_Li_Ext_i_Ext] (start a b) := Call_run (af := a_slices_IndexFunc_Li_Ext_i_Ext) rfl a b
theorem ow_slices_IndexFunc_Li_Ext_i_Ext : ow 234 = [] := rfl
theorem run_s_FieldOK (a : List V) (b : List Blk) : Call tab ow 238 a b = Rn tab ow (endK ⟨5, b_s_FieldOK, [.tmp 2], .false, .false⟩ b.length) [.code b_s_FieldOK] (start a b) := Call_run (af := a_s_FieldOK) rfl a b
theorem ow_s_FieldOK : ow 238 = [] := rfl
theorem run_s_l00Src_byte (a : List V) (b : List Blk) : Call tab ow 264 a b = Rn tab ow (endK ⟨76, b_s_l00Src_byte, [.tmp 2], .false, .false⟩ b.length) [.code b_s_l00Src_byte] (start a b) := Call_run (af := a_s_l00Src_byte) rfl a b
theorem ow_s_l00Src_byte : ow 264 = [] := rfl
attribute [go_sem] ow_w_FnExtBytes ow_s_ExtsOf ow_w_at ow_i_ExtMul ow_i_ExtAdd ow_w_sameExts ow_i_ExtBytes ow_s_ExtBytes ow_i_ReadExts ow_i_ExtDot
attribute [go_sem] ow_s_ExtDot ow_s_ReadExts ow_s_l00Source ow_s_l00Src_exts ow_i_FieldOK ow_i_are_i_Ext ow_i_ExtOK ow_i_dot ow_s_l00Src_ext ow_i_in
attribute [go_sem] ow_i_extTwo ow_i_Ext_times ow_i_Ext_plus ow_i_extBytes ow_s_l02List ow_s_l02Bytes ow_i_readExts ow_i_areLists ow_s_l02Add ow_s_l02Mul
attribute [go_sem] ow_s_l02Read ow_s_l01In ow_slices_ContainsFunc_Li_Ext_i_Ext ow_s_l00Src_next ow_s_l00Src_field ow_i_are_i_Ext_1 ow_s_l00Src_chance ow_i_add ow_i_mul ow_i_four
attribute [go_sem] ow_s_ExtOK ow_s_l02Number ow_i_number ow_s_l01Add ow_s_l01Mul ow_s_l02Four ow_slices_IndexFunc_Li_Ext_i_Ext ow_s_FieldOK ow_s_l00Src_byte
end Go.AI.Fn
