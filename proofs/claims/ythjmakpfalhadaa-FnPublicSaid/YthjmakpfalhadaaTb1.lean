/- The table. -/
import Derived.Test.YthjmakpfalhadaaTb0
import Derived.Test.YthjmakpfalhadaaAiW
set_option linter.unusedVariables false
set_option maxRecDepth 100000
namespace Go.AI.Fn
noncomputable def tabL : List (Nat × FDef) := [(3, .code a_w_FnPublic), (15, .code a_s_SystemDrawn), (16, .code a_s_NumbersOf), (17, .code a_s_ExtsOf), (18, .code a_i_PublicAt), (19, .code a_i_VectorOf), (20, .code a_i_TableAt), (93, .code a_s_l00Source), (94, .code a_s_l00Src_system), (95, .code a_s_l00Src_fields), (96, .code a_s_l00Src_exts), (97, .code a_i_SystemOK), (98, .code a_i_are_int), (99, .code a_i_FieldOK), (100, .code a_i_are_i_Ext), (101, .code a_i_ExtOK), (102, .code a_i_publicAt), (103, .code a_i_System_half), (104, .code a_i_System_vector), (105, .code a_i_TableOK), (106, .code a_i_isPoint), (107, .code a_i_dot), (108, .code a_i_eqTable), (109, .code a_s_l00Src_ext), (111, .code a_i_in), (115, .code a_i_Ext_times), (116, .code a_i_Ext_plus), (117, .code a_i_isPower), (144, .code a_slices_ContainsFunc_Li_Ext_i_Ext), (169, .code a_i_isMatrix), (200, .code a_s_l00Src_next), (201, .code a_s_l00Src_entries), (202, .code a_s_l00Src_field), (203, .code a_i_System_matrices), (204, .code a_slices_ContainsFunc_Lint_int), (205, .code a_i_are_int_1), (206, .code a_i_are_i_Ext_1), (207, .code a_i_exts), (208, .code a_i_one), (209, .code a_i_Ext_minus), (210, .code a_s_l00Src_chance), (211, .code a_i_add), (212, .code a_i_mul), (234, .code a_slices_IndexFunc_Li_Ext_i_Ext), (251, .code a_i_Entry_order), (264, .code a_s_l00Src_byte), (265, .code a_slices_IndexFunc_Lint_int), (266, .code a_i_sub), (278, .code a_cmp_Or_int), (279, .code a_cmp_Compare_int), (293, .code a_cmp_isNaN_int)]
noncomputable def tab : Tab := fun f => aget tabL f
def owL : List (Nat × List Nat) := []
def ow : Owns := fun f => (aget owL f).getD []
theorem run_w_FnPublic (a : List V) (b : List Blk) : Call tab ow 3 a b = Rn tab ow (endK ⟨93, b_w_FnPublic, [.tmp 4], .false, .false⟩ b.length) [.code b_w_FnPublic] (start a b) := Call_run (af := a_w_FnPublic) rfl a b
theorem ow_w_FnPublic : ow 3 = [] := rfl
theorem run_s_SystemDrawn (a : List V) (b : List Blk) : Call tab ow 15 a b = Rn tab ow (endK ⟨6, b_s_SystemDrawn, [.cell 2 (.some 6)], .false, .false⟩ b.length) [.code b_s_SystemDrawn] (start a b) := Call_run (af := a_s_SystemDrawn) rfl a b
theorem ow_s_SystemDrawn : ow 15 = [] := rfl
theorem run_s_NumbersOf (a : List V) (b : List Blk) : Call tab ow 16 a b = Rn tab ow (endK ⟨9, b_s_NumbersOf, [.tmp 4], .false, .false⟩ b.length) [.code b_s_NumbersOf] (start a b) := Call_run (af := a_s_NumbersOf) rfl a b
theorem ow_s_NumbersOf : ow 16 = [] := rfl
theorem run_s_ExtsOf (a : List V) (b : List Blk) : Call tab ow 17 a b = Rn tab ow (endK ⟨9, b_s_ExtsOf, [.tmp 4], .false, .false⟩ b.length) [.code b_s_ExtsOf] (start a b) := Call_run (af := a_s_ExtsOf) rfl a b
theorem ow_s_ExtsOf : ow 17 = [] := rfl
theorem run_i_PublicAt (a : List V) (b : List Blk) : Call tab ow 18 a b = Rn tab ow (endK ⟨52, b_i_PublicAt, [.cell 6 (.some 2), .tmp 7], .false, .false⟩ b.length) [.code b_i_PublicAt] (start a b) := Call_run (af := a_i_PublicAt) rfl a b
theorem ow_i_PublicAt : ow 18 = [] := rfl
theorem run_i_VectorOf (a : List V) (b : List Blk) : Call tab ow 19 a b = Rn tab ow (endK ⟨48, b_i_VectorOf, [.tmp 6, .tmp 7], .false, .false⟩ b.length) [.code b_i_VectorOf] (start a b) := Call_run (af := a_i_VectorOf) rfl a b
theorem ow_i_VectorOf : ow 19 = [] := rfl
theorem run_i_TableAt (a : List V) (b : List Blk) : Call tab ow 20 a b = Rn tab ow (endK ⟨38, b_i_TableAt, [.cell 4 (.some 2), .tmp 5], .false, .false⟩ b.length) [.code b_i_TableAt] (start a b) := Call_run (af := a_i_TableAt) rfl a b
theorem ow_i_TableAt : ow 20 = [] := rfl
theorem run_s_l00Source (a : List V) (b : List Blk) : Call tab ow 93 a b = Rn tab ow (endK ⟨9, b_s_l00Source, [.tmp 2], .true, .false⟩ b.length) [.code b_s_l00Source] (start a b) := Call_run (af := a_s_l00Source) rfl a b
theorem ow_s_l00Source : ow 93 = [] := rfl
theorem run_s_l00Src_system (a : List V) (b : List Blk) : Call tab ow 94 a b = Rn tab ow (endK ⟨41, b_s_l00Src_system, [.cell 2 (.some 6)], .false, .false⟩ b.length) [.code b_s_l00Src_system] (start a b) := Call_run (af := a_s_l00Src_system) rfl a b
theorem ow_s_l00Src_system : ow 94 = [] := rfl
theorem run_s_l00Src_fields (a : List V) (b : List Blk) : Call tab ow 95 a b = Rn tab ow (endK ⟨19, b_s_l00Src_fields, [.tmp 4], .false, .false⟩ b.length) [.code b_s_l00Src_fields] (start a b) := Call_run (af := a_s_l00Src_fields) rfl a b
theorem ow_s_l00Src_fields : ow 95 = [] := rfl
theorem run_s_l00Src_exts (a : List V) (b : List Blk) : Call tab ow 96 a b = Rn tab ow (endK ⟨19, b_s_l00Src_exts, [.tmp 4], .false, .false⟩ b.length) [.code b_s_l00Src_exts] (start a b) := Call_run (af := a_s_l00Src_exts) rfl a b
theorem ow_s_l00Src_exts : ow 96 = [] := rfl
theorem run_i_SystemOK (a : List V) (b : List Blk) : Call tab ow 97 a b = Rn tab ow (endK ⟨39, b_i_SystemOK, [.tmp 2], .false, .false⟩ b.length) [.code b_i_SystemOK] (start a b) := Call_run (af := a_i_SystemOK) rfl a b
theorem ow_i_SystemOK : ow 97 = [] := rfl
theorem run_i_are_int (a : List V) (b : List Blk) : Call tab ow 98 a b = Rn tab ow (endK ⟨9, b_i_are_int, [.tmp 4], .false, .false⟩ b.length) [.code b_i_are_int] (start a b) := Call_run (af := a_i_are_int) rfl a b
theorem ow_i_are_int : ow 98 = [] := rfl
theorem run_i_FieldOK (a : List V) (b : List Blk) : Call tab ow 99 a b = Rn tab ow (endK ⟨5, b_i_FieldOK, [.tmp 2], .false, .false⟩ b.length) [.code b_i_FieldOK] (start a b) := Call_run (af := a_i_FieldOK) rfl a b
theorem ow_i_FieldOK : ow 99 = [] := rfl
theorem run_i_are_i_Ext (a : List V) (b : List Blk) : Call tab ow 100 a b = Rn tab ow (endK ⟨9, b_i_are_i_Ext, [.tmp 4], .false, .false⟩ b.length) [.code b_i_are_i_Ext] (start a b) := Call_run (af := a_i_are_i_Ext) rfl a b
theorem ow_i_are_i_Ext : ow 100 = [] := rfl
theorem run_i_ExtOK (a : List V) (b : List Blk) : Call tab ow 101 a b = Rn tab ow (endK ⟨11, b_i_ExtOK, [.tmp 2], .false, .false⟩ b.length) [.code b_i_ExtOK] (start a b) := Call_run (af := a_i_ExtOK) rfl a b
theorem ow_i_ExtOK : ow 101 = [] := rfl
theorem run_i_publicAt (a : List V) (b : List Blk) : Call tab ow 102 a b = Rn tab ow (endK ⟨17, b_i_publicAt, [.cell 6 (.some 2)], .false, .false⟩ b.length) [.code b_i_publicAt] (start a b) := Call_run (af := a_i_publicAt) rfl a b
theorem ow_i_publicAt : ow 102 = [] := rfl
theorem run_i_System_half (a : List V) (b : List Blk) : Call tab ow 103 a b = Rn tab ow (endK ⟨7, b_i_System_half, [.tmp 2], .false, .false⟩ b.length) [.code b_i_System_half] (start a b) := Call_run (af := a_i_System_half) rfl a b
theorem ow_i_System_half : ow 103 = [] := rfl
theorem run_i_System_vector (a : List V) (b : List Blk) : Call tab ow 104 a b = Rn tab ow (endK ⟨25, b_i_System_vector, [.tmp 6], .false, .false⟩ b.length) [.code b_i_System_vector] (start a b) := Call_run (af := a_i_System_vector) rfl a b
theorem ow_i_System_vector : ow 104 = [] := rfl
theorem run_i_TableOK (a : List V) (b : List Blk) : Call tab ow 105 a b = Rn tab ow (endK ⟨10, b_i_TableOK, [.tmp 2], .false, .false⟩ b.length) [.code b_i_TableOK] (start a b) := Call_run (af := a_i_TableOK) rfl a b
theorem ow_i_TableOK : ow 105 = [] := rfl
theorem run_i_isPoint (a : List V) (b : List Blk) : Call tab ow 106 a b = Rn tab ow (endK ⟨10, b_i_isPoint, [.tmp 2], .false, .false⟩ b.length) [.code b_i_isPoint] (start a b) := Call_run (af := a_i_isPoint) rfl a b
theorem ow_i_isPoint : ow 106 = [] := rfl
theorem run_i_dot (a : List V) (b : List Blk) : Call tab ow 107 a b = Rn tab ow (endK ⟨26, b_i_dot, [.cell 4 (.some 2)], .false, .false⟩ b.length) [.code b_i_dot] (start a b) := Call_run (af := a_i_dot) rfl a b
theorem ow_i_dot : ow 107 = [] := rfl
theorem run_i_eqTable (a : List V) (b : List Blk) : Call tab ow 108 a b = Rn tab ow (endK ⟨46, b_i_eqTable, [.tmp 2], .false, .false⟩ b.length) [.code b_i_eqTable] (start a b) := Call_run (af := a_i_eqTable) rfl a b
theorem ow_i_eqTable : ow 108 = [] := rfl
theorem run_s_l00Src_ext (a : List V) (b : List Blk) : Call tab ow 109 a b = Rn tab ow (endK ⟨13, b_s_l00Src_ext, [.cell 2 (.some 2)], .false, .false⟩ b.length) [.code b_s_l00Src_ext] (start a b) := Call_run (af := a_s_l00Src_ext) rfl a b
theorem ow_s_l00Src_ext : ow 109 = [] := rfl
theorem run_i_in (a : List V) (b : List Blk) : Call tab ow 111 a b = Rn tab ow (endK ⟨15, b_i_in, [.tmp 6], .false, .false⟩ b.length) [.code b_i_in] (start a b) := Call_run (af := a_i_in) rfl a b
theorem ow_i_in : ow 111 = [] := rfl
theorem run_i_Ext_times (a : List V) (b : List Blk) : Call tab ow 115 a b = Rn tab ow (endK ⟨29, b_i_Ext_times, [.cell 4 (.some 2)], .false, .false⟩ b.length) [.code b_i_Ext_times] (start a b) := Call_run (af := a_i_Ext_times) rfl a b
theorem ow_i_Ext_times : ow 115 = [] := rfl
theorem run_i_Ext_plus (a : List V) (b : List Blk) : Call tab ow 116 a b = Rn tab ow (endK ⟨16, b_i_Ext_plus, [.cell 4 (.some 2)], .false, .false⟩ b.length) [.code b_i_Ext_plus] (start a b) := Call_run (af := a_i_Ext_plus) rfl a b
theorem ow_i_Ext_plus : ow 116 = [] := rfl
theorem run_i_isPower (a : List V) (b : List Blk) : Call tab ow 117 a b = Rn tab ow (endK ⟨15, b_i_isPower, [.tmp 4], .false, .false⟩ b.length) [.code b_i_isPower] (start a b) := Call_run (af := a_i_isPower) rfl a b
theorem ow_i_isPower : ow 117 = [] := rfl
theorem run_slices_ContainsFunc_Li_Ext_i_Ext (a : List V) (b : List Blk) : Call tab ow 144 a b = Rn tab ow (endK ⟨9, b_slices_ContainsFunc_Li_Ext_i_Ext, [.tmp 4], .false, .false⟩ b.length) [.code b_slices_ContainsFunc_Li_Ext_i_Ext] (start a b) := Call_run (af := a_slices_ContainsFunc_Li_Ext_i_Ext) rfl a b
theorem ow_slices_ContainsFunc_Li_Ext_i_Ext : ow 144 = [] := rfl
theorem run_i_isMatrix (a : List V) (b : List Blk) : Call tab ow 169 a b = Rn tab ow (endK ⟨54, b_i_isMatrix, [.tmp 6], .false, .false⟩ b.length) [.code b_i_isMatrix] (start a b) := Call_run (af := a_i_isMatrix) rfl a b
theorem ow_i_isMatrix : ow 169 = [] := rfl
theorem run_s_l00Src_next (a : List V) (b : List Blk) : Call tab ow 200 a b = Rn tab ow (endK ⟨31, b_s_l00Src_next, [.tmp 4], .false, .false⟩ b.length) [.code b_s_l00Src_next] (start a b) := Call_run (af := a_s_l00Src_next) rfl a b
theorem ow_s_l00Src_next : ow 200 = [] := rfl
theorem run_s_l00Src_entries (a : List V) (b : List Blk) : Call tab ow 201 a b = Rn tab ow (endK ⟨37, b_s_l00Src_entries, [.tmp 6], .false, .false⟩ b.length) [.code b_s_l00Src_entries] (start a b) := Call_run (af := a_s_l00Src_entries) rfl a b
theorem ow_s_l00Src_entries : ow 201 = [] := rfl
theorem run_s_l00Src_field (a : List V) (b : List Blk) : Call tab ow 202 a b = Rn tab ow (endK ⟨27, b_s_l00Src_field, [.tmp 2], .false, .false⟩ b.length) [.code b_s_l00Src_field] (start a b) := Call_run (af := a_s_l00Src_field) rfl a b
theorem ow_s_l00Src_field : ow 202 = [] := rfl
theorem run_i_System_matrices (a : List V) (b : List Blk) : Call tab ow 203 a b = Rn tab ow (endK ⟨10, b_i_System_matrices, [.cell 2 (.some 3)], .false, .false⟩ b.length) [.code b_i_System_matrices] (start a b) := Call_run (af := a_i_System_matrices) rfl a b
theorem ow_i_System_matrices : ow 203 = [] := rfl
theorem run_slices_ContainsFunc_Lint_int (a : List V) (b : List Blk) : Call tab ow 204 a b = Rn tab ow (endK ⟨9, b_slices_ContainsFunc_Lint_int, [.tmp 4], .false, .false⟩ b.length) [.code b_slices_ContainsFunc_Lint_int] (start a b) := Call_run (af := a_slices_ContainsFunc_Lint_int) rfl a b
theorem ow_slices_ContainsFunc_Lint_int : ow 204 = [] := rfl
theorem run_i_are_int_1 (a : List V) (b : List Blk) : Call tab ow 205 a b = Rn tab ow (endK ⟨8, b_i_are_int_1, [.tmp 3], .false, .false⟩ b.length) [.code b_i_are_int_1] (start a b) := Call_run (af := a_i_are_int_1) rfl a b
theorem ow_i_are_int_1 : ow 205 = [] := rfl
theorem run_i_are_i_Ext_1 (a : List V) (b : List Blk) : Call tab ow 206 a b = Rn tab ow (endK ⟨8, b_i_are_i_Ext_1, [.tmp 3], .false, .false⟩ b.length) [.code b_i_are_i_Ext_1] (start a b) := Call_run (af := a_i_are_i_Ext_1) rfl a b
theorem ow_i_are_i_Ext_1 : ow 206 = [] := rfl
theorem run_i_exts (a : List V) (b : List Blk) : Call tab ow 207 a b = Rn tab ow (endK ⟨20, b_i_exts, [.tmp 2], .false, .false⟩ b.length) [.code b_i_exts] (start a b) := Call_run (af := a_i_exts) rfl a b
theorem ow_i_exts : ow 207 = [] := rfl
theorem run_i_one (a : List V) (b : List Blk) : Call tab ow 208 a b = Rn tab ow (endK ⟨2, b_i_one, [.cell 0 (.some 2)], .false, .false⟩ b.length) [.code b_i_one] (start a b) := Call_run (af := a_i_one) rfl a b
theorem ow_i_one : ow 208 = [] := rfl
theorem run_i_Ext_minus (a : List V) (b : List Blk) : Call tab ow 209 a b = Rn tab ow (endK ⟨16, b_i_Ext_minus, [.cell 4 (.some 2)], .false, .false⟩ b.length) [.code b_i_Ext_minus] (start a b) := Call_run (af := a_i_Ext_minus) rfl a b
theorem ow_i_Ext_minus : ow 209 = [] := rfl
theorem run_s_l00Src_chance (a : List V) (b : List Blk) : Call tab ow 210 a b = Rn tab ow (endK ⟨11, b_s_l00Src_chance, [.tmp 4], .false, .false⟩ b.length) [.code b_s_l00Src_chance] (start a b) := Call_run (af := a_s_l00Src_chance) rfl a b
theorem ow_s_l00Src_chance : ow 210 = [] := rfl
theorem run_i_add (a : List V) (b : List Blk) : Call tab ow 211 a b = Rn tab ow (endK ⟨9, b_i_add, [.tmp 4], .false, .false⟩ b.length) [.code b_i_add] (start a b) := Call_run (af := a_i_add) rfl a b
theorem ow_i_add : ow 211 = [] := rfl
theorem run_i_mul (a : List V) (b : List Blk) : Call tab ow 212 a b = Rn tab ow (endK ⟨9, b_i_mul, [.tmp 4], .false, .false⟩ b.length) [.code b_i_mul] (start a b) := Call_run (af := a_i_mul) rfl a b
theorem ow_i_mul : ow 212 = [] := rfl
theorem run_slices_IndexFunc_Li_Ext_i_Ext (a : List V) (b : List Blk) : Call tab ow 234 a b = Rn tab ow (endK ⟨19, b_slices_IndexFunc_Li_Ext_i_Ext, [.tmp 4], .false, .false⟩ b.length) [.code b_slices_IndexFunc_Li_Ext_i_Ext] (start a b) := Call_run (af := a_slices_IndexFunc_Li_Ext_i_Ext) rfl a b
theorem ow_slices_IndexFunc_Li_Ext_i_Ext : ow 234 = [] := rfl
theorem run_i_Entry_order (a : List V) (b : List Blk) : Call tab ow 251 a b = Rn tab ow (endK ⟨17, b_i_Entry_order, [.tmp 4], .false, .false⟩ b.length) [.code b_i_Entry_order] (start a b) := Call_run (af := a_i_Entry_order) rfl a b
theorem ow_i_Entry_order : ow 251 = [] := rfl
theorem run_s_l00Src_byte (a : List V) (b : List Blk) : Call tab ow 264 a b = Rn tab ow (endK ⟨76, b_s_l00Src_byte, [.tmp 2], .false, .false⟩ b.length) [.code b_s_l00Src_byte] (start a b) := Call_run (af := a_s_l00Src_byte) rfl a b
theorem ow_s_l00Src_byte : ow 264 = [] := rfl
theorem run_slices_IndexFunc_Lint_int (a : List V) (b : List Blk) : Call tab ow 265 a b = Rn tab ow (endK ⟨19, b_slices_IndexFunc_Lint_int, [.tmp 4], .false, .false⟩ b.length) [.code b_slices_IndexFunc_Lint_int] (start a b) := Call_run (af := a_slices_IndexFunc_Lint_int) rfl a b
theorem ow_slices_IndexFunc_Lint_int : ow 265 = [] := rfl
theorem run_i_sub (a : List V) (b : List Blk) : Call tab ow 266 a b = Rn tab ow (endK ⟨10, b_i_sub, [.tmp 4], .false, .false⟩ b.length) [.code b_i_sub] (start a b) := Call_run (af := a_i_sub) rfl a b
theorem ow_i_sub : ow 266 = [] := rfl
theorem run_cmp_Or_int (a : List V) (b : List Blk) : Call tab ow 278 a b = Rn tab ow (endK ⟨18, b_cmp_Or_int, [.tmp 2], .false, .false⟩ b.length) [.code b_cmp_Or_int] (start a b) := Call_run (af := a_cmp_Or_int) rfl a b
theorem ow_cmp_Or_int : ow 278 = [] := rfl
theorem run_cmp_Compare_int (a : List V) (b : List Blk) : Call tab ow 279 a b = Rn tab ow (endK ⟨20, b_cmp_Compare_int, [.tmp 4], .false, .false⟩ b.length) [.code b_cmp_Compare_int] (start a b) := Call_run (af := a_cmp_Compare_int) rfl a b
theorem ow_cmp_Compare_int : ow 279 = [] := rfl
theorem run_cmp_isNaN_int (a : List V) (b : List Blk) : Call tab ow 293 a b = Rn tab ow (endK ⟨6, b_cmp_isNaN_int, [.tmp 2], .false, .false⟩ b.length) [.code b_cmp_isNaN_int] (start a b) := Call_run (af := a_cmp_isNaN_int) rfl a b
theorem ow_cmp_isNaN_int : ow 293 = [] := rfl
attribute [go_sem] ow_w_FnPublic ow_s_SystemDrawn ow_s_NumbersOf ow_s_ExtsOf ow_i_PublicAt ow_i_VectorOf ow_i_TableAt ow_s_l00Source ow_s_l00Src_system ow_s_l00Src_fields
attribute [go_sem] ow_s_l00Src_exts ow_i_SystemOK ow_i_are_int ow_i_FieldOK ow_i_are_i_Ext ow_i_ExtOK ow_i_publicAt ow_i_System_half ow_i_System_vector ow_i_TableOK
attribute [go_sem] ow_i_isPoint ow_i_dot ow_i_eqTable ow_s_l00Src_ext ow_i_in ow_i_Ext_times ow_i_Ext_plus ow_i_isPower ow_slices_ContainsFunc_Li_Ext_i_Ext ow_i_isMatrix
attribute [go_sem] ow_s_l00Src_next ow_s_l00Src_entries ow_s_l00Src_field ow_i_System_matrices ow_slices_ContainsFunc_Lint_int ow_i_are_int_1 ow_i_are_i_Ext_1 ow_i_exts ow_i_one ow_i_Ext_minus
attribute [go_sem] ow_s_l00Src_chance ow_i_add ow_i_mul ow_slices_IndexFunc_Li_Ext_i_Ext ow_i_Entry_order ow_s_l00Src_byte ow_slices_IndexFunc_Lint_int ow_i_sub ow_cmp_Or_int ow_cmp_Compare_int
attribute [go_sem] ow_cmp_isNaN_int
end Go.AI.Fn
