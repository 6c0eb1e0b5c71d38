/- The table. -/
import Derived.Test.YthjmakpfalhadaaTb0
import Derived.Test.YthjmakpfalhadaaAiW
set_option linter.unusedVariables false
set_option maxRecDepth 100000
namespace Go.AI.Fn
noncomputable def tabL : List (Nat × FDef) := [(12, .code a_w_FnMatrix), (15, .code a_s_SystemDrawn), (17, .code a_s_ExtsOf), (21, .code a_w_at), (71, .code a_i_MatrixAt), (72, .code a_s_MatrixAt), (73, .code a_i_SystemDigest), (74, .code a_s_SystemDigest), (93, .code a_s_l00Source), (94, .code a_s_l00Src_system), (96, .code a_s_l00Src_exts), (97, .code a_i_SystemOK), (99, .code a_i_FieldOK), (100, .code a_i_are_i_Ext), (101, .code a_i_ExtOK), (103, .code a_i_System_half), (108, .code a_i_eqTable), (109, .code a_s_l00Src_ext), (111, .code a_i_in), (115, .code a_i_Ext_times), (116, .code a_i_Ext_plus), (120, .code a_s_l02List), (124, .code a_s_l02Add), (125, .code a_s_l02Mul), (140, .code a_s_l01In), (144, .code a_slices_ContainsFunc_Li_Ext_i_Ext), (147, .code a_s_SystemOK), (168, .code a_i_keccak), (169, .code a_i_isMatrix), (170, .code a_i_Ext_scaled), (171, .code a_s_l10List), (172, .code a_s_l10At), (173, .code a_i_System_digestText), (174, .code a_s_l10Digest), (200, .code a_s_l00Src_next), (201, .code a_s_l00Src_entries), (202, .code a_s_l00Src_field), (203, .code a_i_System_matrices), (206, .code a_i_are_i_Ext_1), (208, .code a_i_one), (209, .code a_i_Ext_minus), (210, .code a_s_l00Src_chance), (211, .code a_i_add), (212, .code a_i_mul), (215, .code a_i_four), (216, .code a_s_ExtOK), (217, .code a_s_l02Number), (219, .code a_s_l01Add), (220, .code a_s_l01Mul), (224, .code a_s_l02Of), (225, .code a_s_l02Sub), (234, .code a_slices_IndexFunc_Li_Ext_i_Ext), (235, .code a_s_l06Eq), (238, .code a_s_FieldOK), (247, .code a_s_l03Hash), (248, .code a_i_lanesOf), (249, .code a_i_lanes_permute), (250, .code a_i_lanes_text), (251, .code a_i_Entry_order), (264, .code a_s_l00Src_byte), (266, .code a_i_sub), (269, .code a_s_l01Sub), (271, .code a_s_l06One), (272, .code a_s_l06Less), (274, .code a_s_l03Lanes), (275, .code a_s_l03Permute), (276, .code a_s_l03Text), (277, .code a_math_bits_RotateLeft64), (278, .code a_cmp_Or_int), (279, .code a_cmp_Compare_int), (290, .code a_s_l03Rounds), (291, .code a_s_l03Shifts), (292, .code a_s_l03Turn), (293, .code a_cmp_isNaN_int)]
noncomputable def tab : Tab := fun f => aget tabL f
def owL : List (Nat × List Nat) := [(215, [0, 1000])]
def ow : Owns := fun f => (aget owL f).getD []
theorem run_w_FnMatrix (a : List V) (b : List Blk) : Call tab ow 12 a b = Rn tab ow (endK ⟨184, b_w_FnMatrix, [.tmp 4], .false, .false⟩ b.length) [.code b_w_FnMatrix] (start a b) := Call_run (af := a_w_FnMatrix) rfl a b
theorem ow_w_FnMatrix : ow 12 = [] := rfl
theorem run_s_SystemDrawn (a : List V) (b : List Blk) : Call tab ow 15 a b = Rn tab ow (endK ⟨6, b_s_SystemDrawn, [.cell 2 (.some 6)], .false, .false⟩ b.length) [.code b_s_SystemDrawn] (start a b) := Call_run (af := a_s_SystemDrawn) rfl a b
theorem ow_s_SystemDrawn : ow 15 = [] := rfl
theorem run_s_ExtsOf (a : List V) (b : List Blk) : Call tab ow 17 a b = Rn tab ow (endK ⟨9, b_s_ExtsOf, [.tmp 4], .false, .false⟩ b.length) [.code b_s_ExtsOf] (start a b) := Call_run (af := a_s_ExtsOf) rfl a b
theorem ow_s_ExtsOf : ow 17 = [] := rfl
theorem run_w_at (a : List V) (b : List Blk) : Call tab ow 21 a b = Rn tab ow (endK ⟨42, b_w_at, [.tmp 6], .false, .false⟩ b.length) [.code b_w_at] (start a b) := Call_run (af := a_w_at) rfl a b
theorem ow_w_at : ow 21 = [] := rfl
theorem run_i_MatrixAt (a : List V) (b : List Blk) : Call tab ow 71 a b = Rn tab ow (endK ⟨90, b_i_MatrixAt, [.cell 6 (.some 2), .tmp 7], .false, .false⟩ b.length) [.code b_i_MatrixAt] (start a b) := Call_run (af := a_i_MatrixAt) rfl a b
theorem ow_i_MatrixAt : ow 71 = [] := rfl
theorem run_s_MatrixAt (a : List V) (b : List Blk) : Call tab ow 72 a b = Rn tab ow (endK ⟨55, b_s_MatrixAt, [.cell 6 (.some 2), .tmp 7], .false, .false⟩ b.length) [.code b_s_MatrixAt] (start a b) := Call_run (af := a_s_MatrixAt) rfl a b
theorem ow_s_MatrixAt : ow 72 = [] := rfl
theorem run_i_SystemDigest (a : List V) (b : List Blk) : Call tab ow 73 a b = Rn tab ow (endK ⟨11, b_i_SystemDigest, [.tmp 2, .tmp 3], .false, .false⟩ b.length) [.code b_i_SystemDigest] (start a b) := Call_run (af := a_i_SystemDigest) rfl a b
theorem ow_i_SystemDigest : ow 73 = [] := rfl
theorem run_s_SystemDigest (a : List V) (b : List Blk) : Call tab ow 74 a b = Rn tab ow (endK ⟨9, b_s_SystemDigest, [.tmp 2, .tmp 3], .false, .false⟩ b.length) [.code b_s_SystemDigest] (start a b) := Call_run (af := a_s_SystemDigest) rfl a b
theorem ow_s_SystemDigest : ow 74 = [] := rfl
theorem run_s_l00Source (a : List V) (b : List Blk) : Call tab ow 93 a b = Rn tab ow (endK ⟨9, b_s_l00Source, [.tmp 2], .true, .false⟩ b.length) [.code b_s_l00Source] (start a b) := Call_run (af := a_s_l00Source) rfl a b
theorem ow_s_l00Source : ow 93 = [] := rfl
theorem run_s_l00Src_system (a : List V) (b : List Blk) : Call tab ow 94 a b = Rn tab ow (endK ⟨41, b_s_l00Src_system, [.cell 2 (.some 6)], .false, .false⟩ b.length) [.code b_s_l00Src_system] (start a b) := Call_run (af := a_s_l00Src_system) rfl a b
theorem ow_s_l00Src_system : ow 94 = [] := rfl
theorem run_s_l00Src_exts (a : List V) (b : List Blk) : Call tab ow 96 a b = Rn tab ow (endK ⟨19, b_s_l00Src_exts, [.tmp 4], .false, .false⟩ b.length) [.code b_s_l00Src_exts] (start a b) := Call_run (af := a_s_l00Src_exts) rfl a b
theorem ow_s_l00Src_exts : ow 96 = [] := rfl
theorem run_i_SystemOK (a : List V) (b : List Blk) : Call tab ow 97 a b = Rn tab ow (endK ⟨39, b_i_SystemOK, [.tmp 2], .false, .false⟩ b.length) [.code b_i_SystemOK] (start a b) := Call_run (af := a_i_SystemOK) rfl a b
theorem ow_i_SystemOK : ow 97 = [] := rfl
theorem run_i_FieldOK (a : List V) (b : List Blk) : Call tab ow 99 a b = Rn tab ow (endK ⟨5, b_i_FieldOK, [.tmp 2], .false, .false⟩ b.length) [.code b_i_FieldOK] (start a b) := Call_run (af := a_i_FieldOK) rfl a b
theorem ow_i_FieldOK : ow 99 = [] := rfl
theorem run_i_are_i_Ext (a : List V) (b : List Blk) : Call tab ow 100 a b = Rn tab ow (endK ⟨9, b_i_are_i_Ext, [.tmp 4], .false, .false⟩ b.length) [.code b_i_are_i_Ext] (start a b) := Call_run (af := a_i_are_i_Ext) rfl a b
theorem ow_i_are_i_Ext : ow 100 = [] := rfl
theorem run_i_ExtOK (a : List V) (b : List Blk) : Call tab ow 101 a b = Rn tab ow (endK ⟨11, b_i_ExtOK, [.tmp 2], .false, .false⟩ b.length) [.code b_i_ExtOK] (start a b) := Call_run (af := a_i_ExtOK) rfl a b
theorem ow_i_ExtOK : ow 101 = [] := rfl
theorem run_i_System_half (a : List V) (b : List Blk) : Call tab ow 103 a b = Rn tab ow (endK ⟨7, b_i_System_half, [.tmp 2], .false, .false⟩ b.length) [.code b_i_System_half] (start a b) := Call_run (af := a_i_System_half) rfl a b
theorem ow_i_System_half : ow 103 = [] := rfl
theorem run_i_eqTable (a : List V) (b : List Blk) : Call tab ow 108 a b = Rn tab ow (endK ⟨46, b_i_eqTable, [.tmp 2], .false, .false⟩ b.length) [.code b_i_eqTable] (start a b) := Call_run (af := a_i_eqTable) rfl a b
theorem ow_i_eqTable : ow 108 = [] := rfl
theorem run_s_l00Src_ext (a : List V) (b : List Blk) : Call tab ow 109 a b = Rn tab ow (endK ⟨13, b_s_l00Src_ext, [.cell 2 (.some 2)], .false, .false⟩ b.length) [.code b_s_l00Src_ext] (start a b) := Call_run (af := a_s_l00Src_ext) rfl a b
theorem ow_s_l00Src_ext : ow 109 = [] := rfl
theorem run_i_in (a : List V) (b : List Blk) : Call tab ow 111 a b = Rn tab ow (endK ⟨15, b_i_in, [.tmp 6], .false, .false⟩ b.length) [.code b_i_in] (start a b) := Call_run (af := a_i_in) rfl a b
theorem ow_i_in : ow 111 = [] := rfl
theorem run_i_Ext_times (a : List V) (b : List Blk) : Call tab ow 115 a b = Rn tab ow (endK ⟨29, b_i_Ext_times, [.cell 4 (.some 2)], .false, .false⟩ b.length) [.code b_i_Ext_times] (start a b) := Call_run (af := a_i_Ext_times) rfl a b
theorem ow_i_Ext_times : ow 115 = [] := rfl
theorem run_i_Ext_plus (a : List V) (b : List Blk) : Call tab ow 116 a b = Rn tab ow (endK ⟨16, b_i_Ext_plus, [.cell 4 (.some 2)], .false, .false⟩ b.length) [.code b_i_Ext_plus] (start a b) := Call_run (af := a_i_Ext_plus) rfl a b
theorem ow_i_Ext_plus : ow 116 = [] := rfl
theorem run_s_l02List (a : List V) (b : List Blk) : Call tab ow 120 a b = Rn tab ow (endK ⟨16, b_s_l02List, [.tmp 2], .false, .false⟩ b.length) [.code b_s_l02List] (start a b) := Call_run (af := a_s_l02List) rfl a b
theorem ow_s_l02List : ow 120 = [] := rfl
theorem run_s_l02Add (a : List V) (b : List Blk) : Call tab ow 124 a b = Rn tab ow (endK ⟨16, b_s_l02Add, [.cell 4 (.some 2)], .false, .false⟩ b.length) [.code b_s_l02Add] (start a b) := Call_run (af := a_s_l02Add) rfl a b
theorem ow_s_l02Add : ow 124 = [] := rfl
theorem run_s_l02Mul (a : List V) (b : List Blk) : Call tab ow 125 a b = Rn tab ow (endK ⟨30, b_s_l02Mul, [.cell 4 (.some 2)], .false, .false⟩ b.length) [.code b_s_l02Mul] (start a b) := Call_run (af := a_s_l02Mul) rfl a b
theorem ow_s_l02Mul : ow 125 = [] := rfl
theorem run_s_l01In (a : List V) (b : List Blk) : Call tab ow 140 a b = Rn tab ow (endK ⟨15, b_s_l01In, [.tmp 6], .false, .false⟩ b.length) [.code b_s_l01In] (start a b) := Call_run (af := a_s_l01In) rfl a b
theorem ow_s_l01In : ow 140 = [] := rfl
theorem run_slices_ContainsFunc_Li_Ext_i_Ext (a : List V) (b : List Blk) : Call tab ow 144 a b = Rn tab ow (endK ⟨9, b_slices_ContainsFunc_Li_Ext_i_Ext, [.tmp 4], .false, .false⟩ b.length) [.code b_slices_ContainsFunc_Li_Ext_i_Ext] (start a b) := Call_run (af := a_slices_ContainsFunc_Li_Ext_i_Ext) rfl a b
theorem ow_slices_ContainsFunc_Li_Ext_i_Ext : ow 144 = [] := rfl
theorem run_s_SystemOK (a : List V) (b : List Blk) : Call tab ow 147 a b = Rn tab ow (endK ⟨49, b_s_SystemOK, [.tmp 2], .false, .false⟩ b.length) [.code b_s_SystemOK] (start a b) := Call_run (af := a_s_SystemOK) rfl a b
theorem ow_s_SystemOK : ow 147 = [] := rfl
theorem run_i_keccak (a : List V) (b : List Blk) : Call tab ow 168 a b = Rn tab ow (endK ⟨62, b_i_keccak, [.tmp 2], .false, .false⟩ b.length) [.code b_i_keccak] (start a b) := Call_run (af := a_i_keccak) rfl a b
theorem ow_i_keccak : ow 168 = [] := rfl
theorem run_i_isMatrix (a : List V) (b : List Blk) : Call tab ow 169 a b = Rn tab ow (endK ⟨54, b_i_isMatrix, [.tmp 6], .false, .false⟩ b.length) [.code b_i_isMatrix] (start a b) := Call_run (af := a_i_isMatrix) rfl a b
theorem ow_i_isMatrix : ow 169 = [] := rfl
theorem run_i_Ext_scaled (a : List V) (b : List Blk) : Call tab ow 170 a b = Rn tab ow (endK ⟨14, b_i_Ext_scaled, [.cell 4 (.some 2)], .false, .false⟩ b.length) [.code b_i_Ext_scaled] (start a b) := Call_run (af := a_i_Ext_scaled) rfl a b
theorem ow_i_Ext_scaled : ow 170 = [] := rfl
theorem run_s_l10List (a : List V) (b : List Blk) : Call tab ow 171 a b = Rn tab ow (endK ⟨81, b_s_l10List, [.tmp 6], .false, .false⟩ b.length) [.code b_s_l10List] (start a b) := Call_run (af := a_s_l10List) rfl a b
theorem ow_s_l10List : ow 171 = [] := rfl
theorem run_s_l10At (a : List V) (b : List Blk) : Call tab ow 172 a b = Rn tab ow (endK ⟨45, b_s_l10At, [.cell 6 (.some 2)], .false, .false⟩ b.length) [.code b_s_l10At] (start a b) := Call_run (af := a_s_l10At) rfl a b
theorem ow_s_l10At : ow 172 = [] := rfl
theorem run_i_System_digestText (a : List V) (b : List Blk) : Call tab ow 173 a b = Rn tab ow (endK ⟨51, b_i_System_digestText, [.tmp 2], .false, .false⟩ b.length) [.code b_i_System_digestText] (start a b) := Call_run (af := a_i_System_digestText) rfl a b
theorem ow_i_System_digestText : ow 173 = [] := rfl
theorem run_s_l10Digest (a : List V) (b : List Blk) : Call tab ow 174 a b = Rn tab ow (endK ⟨73, b_s_l10Digest, [.tmp 2], .false, .false⟩ b.length) [.code b_s_l10Digest] (start a b) := Call_run (af := a_s_l10Digest) rfl a b
theorem ow_s_l10Digest : ow 174 = [] := rfl
theorem run_s_l00Src_next (a : List V) (b : List Blk) : Call tab ow 200 a b = Rn tab ow (endK ⟨31, b_s_l00Src_next, [.tmp 4], .false, .false⟩ b.length) [.code b_s_l00Src_next] (start a b) := Call_run (af := a_s_l00Src_next) rfl a b
theorem ow_s_l00Src_next : ow 200 = [] := rfl
theorem run_s_l00Src_entries (a : List V) (b : List Blk) : Call tab ow 201 a b = Rn tab ow (endK ⟨37, b_s_l00Src_entries, [.tmp 6], .false, .false⟩ b.length) [.code b_s_l00Src_entries] (start a b) := Call_run (af := a_s_l00Src_entries) rfl a b
theorem ow_s_l00Src_entries : ow 201 = [] := rfl
theorem run_s_l00Src_field (a : List V) (b : List Blk) : Call tab ow 202 a b = Rn tab ow (endK ⟨27, b_s_l00Src_field, [.tmp 2], .false, .false⟩ b.length) [.code b_s_l00Src_field] (start a b) := Call_run (af := a_s_l00Src_field) rfl a b
theorem ow_s_l00Src_field : ow 202 = [] := rfl
theorem run_i_System_matrices (a : List V) (b : List Blk) : Call tab ow 203 a b = Rn tab ow (endK ⟨10, b_i_System_matrices, [.cell 2 (.some 3)], .false, .false⟩ b.length) [.code b_i_System_matrices] (start a b) := Call_run (af := a_i_System_matrices) rfl a b
theorem ow_i_System_matrices : ow 203 = [] := rfl
theorem run_i_are_i_Ext_1 (a : List V) (b : List Blk) : Call tab ow 206 a b = Rn tab ow (endK ⟨8, b_i_are_i_Ext_1, [.tmp 3], .false, .false⟩ b.length) [.code b_i_are_i_Ext_1] (start a b) := Call_run (af := a_i_are_i_Ext_1) rfl a b
theorem ow_i_are_i_Ext_1 : ow 206 = [] := rfl
theorem run_i_one (a : List V) (b : List Blk) : Call tab ow 208 a b = Rn tab ow (endK ⟨2, b_i_one, [.cell 0 (.some 2)], .false, .false⟩ b.length) [.code b_i_one] (start a b) := Call_run (af := a_i_one) rfl a b
theorem ow_i_one : ow 208 = [] := rfl
theorem run_i_Ext_minus (a : List V) (b : List Blk) : Call tab ow 209 a b = Rn tab ow (endK ⟨16, b_i_Ext_minus, [.cell 4 (.some 2)], .false, .false⟩ b.length) [.code b_i_Ext_minus] (start a b) := Call_run (af := a_i_Ext_minus) rfl a b
theorem ow_i_Ext_minus : ow 209 = [] := rfl
theorem run_s_l00Src_chance (a : List V) (b : List Blk) : Call tab ow 210 a b = Rn tab ow (endK ⟨11, b_s_l00Src_chance, [.tmp 4], .false, .false⟩ b.length) [.code b_s_l00Src_chance] (start a b) := Call_run (af := a_s_l00Src_chance) rfl a b
theorem ow_s_l00Src_chance : ow 210 = [] := rfl
theorem run_i_add (a : List V) (b : List Blk) : Call tab ow 211 a b = Rn tab ow (endK ⟨9, b_i_add, [.tmp 4], .false, .false⟩ b.length) [.code b_i_add] (start a b) := Call_run (af := a_i_add) rfl a b
theorem ow_i_add : ow 211 = [] := rfl
theorem run_i_mul (a : List V) (b : List Blk) : Call tab ow 212 a b = Rn tab ow (endK ⟨9, b_i_mul, [.tmp 4], .false, .false⟩ b.length) [.code b_i_mul] (start a b) := Call_run (af := a_i_mul) rfl a b
theorem ow_i_mul : ow 212 = [] := rfl
theorem run_i_four (a : List V) (b : List Blk) : Call tab ow 215 a b = Rn tab ow (endK ⟨19, b_i_four, [.tmp 4], .false, .false⟩ b.length) [.code b_i_four] (start a b) := Call_run (af := a_i_four) rfl a b
theorem ow_i_four : ow 215 = [0, 1000] := rfl
theorem run_s_ExtOK (a : List V) (b : List Blk) : Call tab ow 216 a b = Rn tab ow (endK ⟨11, b_s_ExtOK, [.tmp 2], .false, .false⟩ b.length) [.code b_s_ExtOK] (start a b) := Call_run (af := a_s_ExtOK) rfl a b
theorem ow_s_ExtOK : ow 216 = [] := rfl
theorem run_s_l02Number (a : List V) (b : List Blk) : Call tab ow 217 a b = Rn tab ow (endK ⟨24, b_s_l02Number, [.tmp 4], .false, .false⟩ b.length) [.code b_s_l02Number] (start a b) := Call_run (af := a_s_l02Number) rfl a b
theorem ow_s_l02Number : ow 217 = [] := rfl
theorem run_s_l01Add (a : List V) (b : List Blk) : Call tab ow 219 a b = Rn tab ow (endK ⟨9, b_s_l01Add, [.tmp 4], .false, .false⟩ b.length) [.code b_s_l01Add] (start a b) := Call_run (af := a_s_l01Add) rfl a b
theorem ow_s_l01Add : ow 219 = [] := rfl
theorem run_s_l01Mul (a : List V) (b : List Blk) : Call tab ow 220 a b = Rn tab ow (endK ⟨9, b_s_l01Mul, [.tmp 4], .false, .false⟩ b.length) [.code b_s_l01Mul] (start a b) := Call_run (af := a_s_l01Mul) rfl a b
theorem ow_s_l01Mul : ow 220 = [] := rfl
theorem run_s_l02Of (a : List V) (b : List Blk) : Call tab ow 224 a b = Rn tab ow (endK ⟨5, b_s_l02Of, [.cell 2 (.some 2)], .false, .false⟩ b.length) [.code b_s_l02Of] (start a b) := Call_run (af := a_s_l02Of) rfl a b
theorem ow_s_l02Of : ow 224 = [] := rfl
theorem run_s_l02Sub (a : List V) (b : List Blk) : Call tab ow 225 a b = Rn tab ow (endK ⟨16, b_s_l02Sub, [.cell 4 (.some 2)], .false, .false⟩ b.length) [.code b_s_l02Sub] (start a b) := Call_run (af := a_s_l02Sub) rfl a b
theorem ow_s_l02Sub : ow 225 = [] := rfl
theorem run_slices_IndexFunc_Li_Ext_i_Ext (a : List V) (b : List Blk) : Call tab ow 234 a b = Rn tab ow (endK ⟨19, b_slices_IndexFunc_Li_Ext_i_Ext, [.tmp 4], .false, .false⟩ b.length) [.code b_slices_IndexFunc_Li_Ext_i_Ext] (start a b) := Call_run (af := a_slices_IndexFunc_Li_Ext_i_Ext) rfl a b
theorem ow_slices_IndexFunc_Li_Ext_i_Ext : ow 234 = [] := rfl
theorem run_s_l06Eq (a : List V) (b : List Blk) : Call tab ow 235 a b = Rn tab ow (endK ⟨55, b_s_l06Eq, [.tmp 2], .false, .false⟩ b.length) [.code b_s_l06Eq] (start a b) := Call_run (af := a_s_l06Eq) rfl a b
theorem ow_s_l06Eq : ow 235 = [] := rfl
theorem run_s_FieldOK (a : List V) (b : List Blk) : Call tab ow 238 a b = Rn tab ow (endK ⟨5, b_s_FieldOK, [.tmp 2], .false, .false⟩ b.length) [.code b_s_FieldOK] (start a b) := Call_run (af := a_s_FieldOK) rfl a b
theorem ow_s_FieldOK : ow 238 = [] := rfl
theorem run_s_l03Hash (a : List V) (b : List Blk) : Call tab ow 247 a b = Rn tab ow (endK ⟨57, b_s_l03Hash, [.tmp 2], .false, .false⟩ b.length) [.code b_s_l03Hash] (start a b) := Call_run (af := a_s_l03Hash) rfl a b
theorem ow_s_l03Hash : ow 247 = [] := rfl
theorem run_i_lanesOf (a : List V) (b : List Blk) : Call tab ow 248 a b = Rn tab ow (endK ⟨28, b_i_lanesOf, [.cell 2 (.some 25)], .false, .false⟩ b.length) [.code b_i_lanesOf] (start a b) := Call_run (af := a_i_lanesOf) rfl a b
theorem ow_i_lanesOf : ow 248 = [] := rfl
theorem run_i_lanes_permute (a : List V) (b : List Blk) : Call tab ow 249 a b = Rn tab ow (endK ⟨124, b_i_lanes_permute, [], .false, .false⟩ b.length) [.code b_i_lanes_permute] (start a b) := Call_run (af := a_i_lanes_permute) rfl a b
theorem ow_i_lanes_permute : ow 249 = [] := rfl
theorem run_i_lanes_text (a : List V) (b : List Blk) : Call tab ow 250 a b = Rn tab ow (endK ⟨25, b_i_lanes_text, [.tmp 2], .false, .false⟩ b.length) [.code b_i_lanes_text] (start a b) := Call_run (af := a_i_lanes_text) rfl a b
theorem ow_i_lanes_text : ow 250 = [] := rfl
theorem run_i_Entry_order (a : List V) (b : List Blk) : Call tab ow 251 a b = Rn tab ow (endK ⟨17, b_i_Entry_order, [.tmp 4], .false, .false⟩ b.length) [.code b_i_Entry_order] (start a b) := Call_run (af := a_i_Entry_order) rfl a b
theorem ow_i_Entry_order : ow 251 = [] := rfl
theorem run_s_l00Src_byte (a : List V) (b : List Blk) : Call tab ow 264 a b = Rn tab ow (endK ⟨76, b_s_l00Src_byte, [.tmp 2], .false, .false⟩ b.length) [.code b_s_l00Src_byte] (start a b) := Call_run (af := a_s_l00Src_byte) rfl a b
theorem ow_s_l00Src_byte : ow 264 = [] := rfl
theorem run_i_sub (a : List V) (b : List Blk) : Call tab ow 266 a b = Rn tab ow (endK ⟨10, b_i_sub, [.tmp 4], .false, .false⟩ b.length) [.code b_i_sub] (start a b) := Call_run (af := a_i_sub) rfl a b
theorem ow_i_sub : ow 266 = [] := rfl
theorem run_s_l01Sub (a : List V) (b : List Blk) : Call tab ow 269 a b = Rn tab ow (endK ⟨10, b_s_l01Sub, [.tmp 4], .false, .false⟩ b.length) [.code b_s_l01Sub] (start a b) := Call_run (af := a_s_l01Sub) rfl a b
theorem ow_s_l01Sub : ow 269 = [] := rfl
theorem run_s_l06One (a : List V) (b : List Blk) : Call tab ow 271 a b = Rn tab ow (endK ⟨2, b_s_l06One, [.cell 0 (.some 2)], .false, .false⟩ b.length) [.code b_s_l06One] (start a b) := Call_run (af := a_s_l06One) rfl a b
theorem ow_s_l06One : ow 271 = [] := rfl
theorem run_s_l06Less (a : List V) (b : List Blk) : Call tab ow 272 a b = Rn tab ow (endK ⟨6, b_s_l06Less, [.cell 2 (.some 2)], .false, .false⟩ b.length) [.code b_s_l06Less] (start a b) := Call_run (af := a_s_l06Less) rfl a b
theorem ow_s_l06Less : ow 272 = [] := rfl
theorem run_s_l03Lanes (a : List V) (b : List Blk) : Call tab ow 274 a b = Rn tab ow (endK ⟨28, b_s_l03Lanes, [.cell 2 (.some 25)], .false, .false⟩ b.length) [.code b_s_l03Lanes] (start a b) := Call_run (af := a_s_l03Lanes) rfl a b
theorem ow_s_l03Lanes : ow 274 = [] := rfl
theorem run_s_l03Permute (a : List V) (b : List Blk) : Call tab ow 275 a b = Rn tab ow (endK ⟨149, b_s_l03Permute, [.cell 2 (.some 25)], .false, .false⟩ b.length) [.code b_s_l03Permute] (start a b) := Call_run (af := a_s_l03Permute) rfl a b
theorem ow_s_l03Permute : ow 275 = [] := rfl
theorem run_s_l03Text (a : List V) (b : List Blk) : Call tab ow 276 a b = Rn tab ow (endK ⟨28, b_s_l03Text, [.tmp 4], .false, .false⟩ b.length) [.code b_s_l03Text] (start a b) := Call_run (af := a_s_l03Text) rfl a b
theorem ow_s_l03Text : ow 276 = [] := rfl
theorem run_math_bits_RotateLeft64 (a : List V) (b : List Blk) : Call tab ow 277 a b = Rn tab ow (endK ⟨17, b_math_bits_RotateLeft64, [.tmp 4], .false, .false⟩ b.length) [.code b_math_bits_RotateLeft64] (start a b) := Call_run (af := a_math_bits_RotateLeft64) rfl a b
theorem ow_math_bits_RotateLeft64 : ow 277 = [] := rfl
theorem run_cmp_Or_int (a : List V) (b : List Blk) : Call tab ow 278 a b = Rn tab ow (endK ⟨18, b_cmp_Or_int, [.tmp 2], .false, .false⟩ b.length) [.code b_cmp_Or_int] (start a b) := Call_run (af := a_cmp_Or_int) rfl a b
theorem ow_cmp_Or_int : ow 278 = [] := rfl
theorem run_cmp_Compare_int (a : List V) (b : List Blk) : Call tab ow 279 a b = Rn tab ow (endK ⟨20, b_cmp_Compare_int, [.tmp 4], .false, .false⟩ b.length) [.code b_cmp_Compare_int] (start a b) := Call_run (af := a_cmp_Compare_int) rfl a b
theorem ow_cmp_Compare_int : ow 279 = [] := rfl
theorem run_s_l03Rounds (a : List V) (b : List Blk) : Call tab ow 290 a b = Rn tab ow (endK ⟨2, b_s_l03Rounds, [.cell 0 (.some 24)], .false, .false⟩ b.length) [.code b_s_l03Rounds] (start a b) := Call_run (af := a_s_l03Rounds) rfl a b
theorem ow_s_l03Rounds : ow 290 = [] := rfl
theorem run_s_l03Shifts (a : List V) (b : List Blk) : Call tab ow 291 a b = Rn tab ow (endK ⟨2, b_s_l03Shifts, [.cell 0 (.some 25)], .false, .false⟩ b.length) [.code b_s_l03Shifts] (start a b) := Call_run (af := a_s_l03Shifts) rfl a b
theorem ow_s_l03Shifts : ow 291 = [] := rfl
theorem run_s_l03Turn (a : List V) (b : List Blk) : Call tab ow 292 a b = Rn tab ow (endK ⟨16, b_s_l03Turn, [.tmp 4], .false, .false⟩ b.length) [.code b_s_l03Turn] (start a b) := Call_run (af := a_s_l03Turn) rfl a b
theorem ow_s_l03Turn : ow 292 = [] := rfl
theorem run_cmp_isNaN_int (a : List V) (b : List Blk) : Call tab ow 293 a b = Rn tab ow (endK ⟨6, b_cmp_isNaN_int, [.tmp 2], .false, .false⟩ b.length) [.code b_cmp_isNaN_int] (start a b) := Call_run (af := a_cmp_isNaN_int) rfl a b
theorem ow_cmp_isNaN_int : ow 293 = [] := rfl
attribute [go_sem] ow_w_FnMatrix ow_s_SystemDrawn ow_s_ExtsOf ow_w_at ow_i_MatrixAt ow_s_MatrixAt ow_i_SystemDigest ow_s_SystemDigest ow_s_l00Source ow_s_l00Src_system
attribute [go_sem] ow_s_l00Src_exts ow_i_SystemOK ow_i_FieldOK ow_i_are_i_Ext ow_i_ExtOK ow_i_System_half ow_i_eqTable ow_s_l00Src_ext ow_i_in ow_i_Ext_times
attribute [go_sem] ow_i_Ext_plus ow_s_l02List ow_s_l02Add ow_s_l02Mul ow_s_l01In ow_slices_ContainsFunc_Li_Ext_i_Ext ow_s_SystemOK ow_i_keccak ow_i_isMatrix ow_i_Ext_scaled
attribute [go_sem] ow_s_l10List ow_s_l10At ow_i_System_digestText ow_s_l10Digest ow_s_l00Src_next ow_s_l00Src_entries ow_s_l00Src_field ow_i_System_matrices ow_i_are_i_Ext_1 ow_i_one
attribute [go_sem] ow_i_Ext_minus ow_s_l00Src_chance ow_i_add ow_i_mul ow_i_four ow_s_ExtOK ow_s_l02Number ow_s_l01Add ow_s_l01Mul ow_s_l02Of
attribute [go_sem] ow_s_l02Sub ow_slices_IndexFunc_Li_Ext_i_Ext ow_s_l06Eq ow_s_FieldOK ow_s_l03Hash ow_i_lanesOf ow_i_lanes_permute ow_i_lanes_text ow_i_Entry_order ow_s_l00Src_byte
attribute [go_sem] ow_i_sub ow_s_l01Sub ow_s_l06One ow_s_l06Less ow_s_l03Lanes ow_s_l03Permute ow_s_l03Text ow_math_bits_RotateLeft64 ow_cmp_Or_int ow_cmp_Compare_int
attribute [go_sem] ow_s_l03Rounds ow_s_l03Shifts ow_s_l03Turn ow_cmp_isNaN_int
end Go.AI.Fn
