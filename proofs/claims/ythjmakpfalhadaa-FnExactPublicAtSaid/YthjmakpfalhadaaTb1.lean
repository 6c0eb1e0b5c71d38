/- The table. -/
import Derived.Test.YthjmakpfalhadaaTb0
import Derived.Test.YthjmakpfalhadaaAiW
set_option linter.unusedVariables false
set_option maxRecDepth 100000
namespace Go.AI.Fn
noncomputable def tabL : List (Nat × FDef) := [(10, .code a_w_FnExactPublicAt), (18, .code a_i_PublicAt), (48, .code a_w_szSystem), (49, .code a_w_szExtS), (51, .code a_w_toSystem), (52, .code a_w_toExtS), (53, .code a_w_toExt), (55, .code a_w_eqExtS), (56, .code a_w_eqSystem), (60, .code a_s_PublicAt), (61, .code a_w_toIntS), (62, .code a_w_eqExt), (63, .code a_w_eqIntS), (97, .code a_i_SystemOK), (98, .code a_i_are_int), (99, .code a_i_FieldOK), (100, .code a_i_are_i_Ext), (101, .code a_i_ExtOK), (102, .code a_i_publicAt), (103, .code a_i_System_half), (104, .code a_i_System_vector), (107, .code a_i_dot), (108, .code a_i_eqTable), (111, .code a_i_in), (115, .code a_i_Ext_times), (116, .code a_i_Ext_plus), (120, .code a_s_l02List), (124, .code a_s_l02Add), (125, .code a_s_l02Mul), (140, .code a_s_l01In), (144, .code a_slices_ContainsFunc_Li_Ext_i_Ext), (146, .code a_w_szEntryS), (147, .code a_s_SystemOK), (149, .code a_w_toEntryS), (151, .code a_w_eqEntryS), (153, .code a_s_l10Fields), (154, .code a_s_l13Public), (169, .code a_i_isMatrix), (171, .code a_s_l10List), (203, .code a_i_System_matrices), (204, .code a_slices_ContainsFunc_Lint_int), (205, .code a_i_are_int_1), (206, .code a_i_are_i_Ext_1), (207, .code a_i_exts), (208, .code a_i_one), (209, .code a_i_Ext_minus), (211, .code a_i_add), (212, .code a_i_mul), (216, .code a_s_ExtOK), (219, .code a_s_l01Add), (220, .code a_s_l01Mul), (224, .code a_s_l02Of), (225, .code a_s_l02Sub), (234, .code a_slices_IndexFunc_Li_Ext_i_Ext), (235, .code a_s_l06Eq), (236, .code a_w_toEntry), (237, .code a_w_eqEntry), (238, .code a_s_FieldOK), (239, .code a_s_l06At), (240, .code a_s_l12Exts), (241, .code a_s_l10Vector), (251, .code a_i_Entry_order), (265, .code a_slices_IndexFunc_Lint_int), (266, .code a_i_sub), (269, .code a_s_l01Sub), (271, .code a_s_l06One), (272, .code a_s_l06Less), (278, .code a_cmp_Or_int), (279, .code a_cmp_Compare_int), (293, .code a_cmp_isNaN_int)]
noncomputable def tab : Tab := fun f => aget tabL f
def owL : List (Nat × List Nat) := []
def ow : Owns := fun f => (aget owL f).getD []
theorem run_w_FnExactPublicAt (a : List V) (b : List Blk) : Call tab ow 10 a b = Rn tab ow (endK ⟨75, b_w_FnExactPublicAt, [.tmp 6], .false, .false⟩ b.length) [.code b_w_FnExactPublicAt] (start a b) := Call_run (af := a_w_FnExactPublicAt) rfl a b
theorem ow_w_FnExactPublicAt : ow 10 = [] := rfl
theorem run_i_PublicAt (a : List V) (b : List Blk) : Call tab ow 18 a b = Rn tab ow (endK ⟨52, b_i_PublicAt, [.cell 6 (.some 2), .tmp 7], .false, .false⟩ b.length) [.code b_i_PublicAt] (start a b) := Call_run (af := a_i_PublicAt) rfl a b
theorem ow_i_PublicAt : ow 18 = [] := rfl
theorem run_w_szSystem (a : List V) (b : List Blk) : Call tab ow 48 a b = Rn tab ow (endK ⟨24, b_w_szSystem, [.tmp 4], .false, .false⟩ b.length) [.code b_w_szSystem] (start a b) := Call_run (af := a_w_szSystem) rfl a b
theorem ow_w_szSystem : ow 48 = [] := rfl
theorem run_w_szExtS (a : List V) (b : List Blk) : Call tab ow 49 a b = Rn tab ow (endK ⟨12, b_w_szExtS, [.tmp 4], .false, .false⟩ b.length) [.code b_w_szExtS] (start a b) := Call_run (af := a_w_szExtS) rfl a b
theorem ow_w_szExtS : ow 49 = [] := rfl
theorem run_w_toSystem (a : List V) (b : List Blk) : Call tab ow 51 a b = Rn tab ow (endK ⟨26, b_w_toSystem, [.cell 2 (.some 6)], .false, .false⟩ b.length) [.code b_w_toSystem] (start a b) := Call_run (af := a_w_toSystem) rfl a b
theorem ow_w_toSystem : ow 51 = [] := rfl
theorem run_w_toExtS (a : List V) (b : List Blk) : Call tab ow 52 a b = Rn tab ow (endK ⟨23, b_w_toExtS, [.tmp 2], .false, .false⟩ b.length) [.code b_w_toExtS] (start a b) := Call_run (af := a_w_toExtS) rfl a b
theorem ow_w_toExtS : ow 52 = [] := rfl
theorem run_w_toExt (a : List V) (b : List Blk) : Call tab ow 53 a b = Rn tab ow (endK ⟨11, b_w_toExt, [.cell 2 (.some 2)], .false, .false⟩ b.length) [.code b_w_toExt] (start a b) := Call_run (af := a_w_toExt) rfl a b
theorem ow_w_toExt : ow 53 = [] := rfl
theorem run_w_eqExtS (a : List V) (b : List Blk) : Call tab ow 55 a b = Rn tab ow (endK ⟨27, b_w_eqExtS, [.tmp 4], .false, .false⟩ b.length) [.code b_w_eqExtS] (start a b) := Call_run (af := a_w_eqExtS) rfl a b
theorem ow_w_eqExtS : ow 55 = [] := rfl
theorem run_w_eqSystem (a : List V) (b : List Blk) : Call tab ow 56 a b = Rn tab ow (endK ⟨38, b_w_eqSystem, [.tmp 4], .false, .false⟩ b.length) [.code b_w_eqSystem] (start a b) := Call_run (af := a_w_eqSystem) rfl a b
theorem ow_w_eqSystem : ow 56 = [] := rfl
theorem run_s_PublicAt (a : List V) (b : List Blk) : Call tab ow 60 a b = Rn tab ow (endK ⟨49, b_s_PublicAt, [.cell 6 (.some 2), .tmp 7], .false, .false⟩ b.length) [.code b_s_PublicAt] (start a b) := Call_run (af := a_s_PublicAt) rfl a b
theorem ow_s_PublicAt : ow 60 = [] := rfl
theorem run_w_toIntS (a : List V) (b : List Blk) : Call tab ow 61 a b = Rn tab ow (endK ⟨22, b_w_toIntS, [.tmp 2], .false, .false⟩ b.length) [.code b_w_toIntS] (start a b) := Call_run (af := a_w_toIntS) rfl a b
theorem ow_w_toIntS : ow 61 = [] := rfl
theorem run_w_eqExt (a : List V) (b : List Blk) : Call tab ow 62 a b = Rn tab ow (endK ⟨15, b_w_eqExt, [.tmp 4], .false, .false⟩ b.length) [.code b_w_eqExt] (start a b) := Call_run (af := a_w_eqExt) rfl a b
theorem ow_w_eqExt : ow 62 = [] := rfl
theorem run_w_eqIntS (a : List V) (b : List Blk) : Call tab ow 63 a b = Rn tab ow (endK ⟨26, b_w_eqIntS, [.tmp 4], .false, .false⟩ b.length) [.code b_w_eqIntS] (start a b) := Call_run (af := a_w_eqIntS) rfl a b
theorem ow_w_eqIntS : ow 63 = [] := rfl
theorem run_i_SystemOK (a : List V) (b : List Blk) : Call tab ow 97 a b = Rn tab ow (endK ⟨39, b_i_SystemOK, [.tmp 2], .false, .false⟩ b.length) [.code b_i_SystemOK] (start a b) := Call_run (af := a_i_SystemOK) rfl a b
theorem ow_i_SystemOK : ow 97 = [] := rfl
theorem run_i_are_int (a : List V) (b : List Blk) : Call tab ow 98 a b = Rn tab ow (endK ⟨9, b_i_are_int, [.tmp 4], .false, .false⟩ b.length) [.code b_i_are_int] (start a b) := Call_run (af := a_i_are_int) rfl a b
theorem ow_i_are_int : ow 98 = [] := rfl
theorem run_i_FieldOK (a : List V) (b : List Blk) : Call tab ow 99 a b = Rn tab ow (endK ⟨5, b_i_FieldOK, [.tmp 2], .false, .false⟩ b.length) [.code b_i_FieldOK] (start a b) := Call_run (af := a_i_FieldOK) rfl a b
theorem ow_i_FieldOK : ow 99 = [] := rfl
theorem run_i_are_i_Ext (a : List V) (b : List Blk) : Call tab ow 100 a b = Rn tab ow (endK ⟨9, b_i_are_i_Ext, [.tmp 4], .false, .false⟩ b.length) [.code b_i_are_i_Ext] (start a b) := Call_run (af := a_i_are_i_Ext) rfl a b
theorem ow_i_are_i_Ext : ow 100 = [] := rfl
theorem run_i_ExtOK (a : List V) (b : List Blk) : Call tab ow 101 a b = Rn tab ow (endK ⟨11, b_i_ExtOK, [.tmp 2], .false, .false⟩ b.length) [.code b_i_ExtOK] (start a b) := Call_run (af := a_i_ExtOK) rfl a b
theorem ow_i_ExtOK : ow 101 = [] := rfl
theorem run_i_publicAt (a : List V) (b : List Blk) : Call tab ow 102 a b = Rn tab ow (endK ⟨17, b_i_publicAt, [.cell 6 (.some 2)], .false, .false⟩ b.length) [.code b_i_publicAt] (start a b) := Call_run (af := a_i_publicAt) rfl a b
theorem ow_i_publicAt : ow 102 = [] := rfl
theorem run_i_System_half (a : List V) (b : List Blk) : Call tab ow 103 a b = Rn tab ow (endK ⟨7, b_i_System_half, [.tmp 2], .false, .false⟩ b.length) [.code b_i_System_half] (start a b) := Call_run (af := a_i_System_half) rfl a b
theorem ow_i_System_half : ow 103 = [] := rfl
theorem run_i_System_vector (a : List V) (b : List Blk) : Call tab ow 104 a b = Rn tab ow (endK ⟨25, b_i_System_vector, [.tmp 6], .false, .false⟩ b.length) [.code b_i_System_vector] (start a b) := Call_run (af := a_i_System_vector) rfl a b
theorem ow_i_System_vector : ow 104 = [] := rfl
theorem run_i_dot (a : List V) (b : List Blk) : Call tab ow 107 a b = Rn tab ow (endK ⟨26, b_i_dot, [.cell 4 (.some 2)], .false, .false⟩ b.length) [.code b_i_dot] (start a b) := Call_run (af := a_i_dot) rfl a b
theorem ow_i_dot : ow 107 = [] := rfl
theorem run_i_eqTable (a : List V) (b : List Blk) : Call tab ow 108 a b = Rn tab ow (endK ⟨46, b_i_eqTable, [.tmp 2], .false, .false⟩ b.length) [.code b_i_eqTable] (start a b) := Call_run (af := a_i_eqTable) rfl a b
theorem ow_i_eqTable : ow 108 = [] := rfl
theorem run_i_in (a : List V) (b : List Blk) : Call tab ow 111 a b = Rn tab ow (endK ⟨15, b_i_in, [.tmp 6], .false, .false⟩ b.length) [.code b_i_in] (start a b) := Call_run (af := a_i_in) rfl a b
theorem ow_i_in : ow 111 = [] := rfl
theorem run_i_Ext_times (a : List V) (b : List Blk) : Call tab ow 115 a b = Rn tab ow (endK ⟨29, b_i_Ext_times, [.cell 4 (.some 2)], .false, .false⟩ b.length) [.code b_i_Ext_times] (start a b) := Call_run (af := a_i_Ext_times) rfl a b
theorem ow_i_Ext_times : ow 115 = [] := rfl
theorem run_i_Ext_plus (a : List V) (b : List Blk) : Call tab ow 116 a b = Rn tab ow (endK ⟨16, b_i_Ext_plus, [.cell 4 (.some 2)], .false, .false⟩ b.length) [.code b_i_Ext_plus] (start a b) := Call_run (af := a_i_Ext_plus) rfl a b
theorem ow_i_Ext_plus : ow 116 = [] := rfl
theorem run_s_l02List (a : List V) (b : List Blk) : Call tab ow 120 a b = Rn tab ow (endK ⟨16, b_s_l02List, [.tmp 2], .false, .false⟩ b.length) [.code b_s_l02List] (start a b) := Call_run (af := a_s_l02List) rfl a b
theorem ow_s_l02List : ow 120 = [] := rfl
theorem run_s_l02Add (a : List V) (b : List Blk) : Call tab ow 124 a b = Rn tab ow (endK ⟨16, b_s_l02Add, [.cell 4 (.some 2)], .false, .false⟩ b.length) [.code b_s_l02Add] (start a b) := Call_run (af := a_s_l02Add) rfl a b
theorem ow_s_l02Add : ow 124 = [] := rfl
theorem run_s_l02Mul (a : List V) (b : List Blk) : Call tab ow 125 a b = Rn tab ow (endK ⟨30, b_s_l02Mul, [.cell 4 (.some 2)], .false, .false⟩ b.length) [.code b_s_l02Mul] (start a b) := Call_run (af := a_s_l02Mul) rfl a b
theorem ow_s_l02Mul : ow 125 = [] := rfl
theorem run_s_l01In (a : List V) (b : List Blk) : Call tab ow 140 a b = Rn tab ow (endK ⟨15, b_s_l01In, [.tmp 6], .false, .false⟩ b.length) [.code b_s_l01In] (start a b) := Call_run (af := a_s_l01In) rfl a b
theorem ow_s_l01In : ow 140 = [] := rfl
theorem run_slices_ContainsFunc_Li_Ext_i_Ext (a : List V) (b : List Blk) : Call tab ow 144 a b = Rn tab ow (endK ⟨9, b_slices_ContainsFunc_Li_Ext_i_Ext, [.tmp 4], .false, .false⟩ b.length) [.code b_slices_ContainsFunc_Li_Ext_i_Ext] (start a b) := Call_run (af := a_slices_ContainsFunc_Li_Ext_i_Ext) rfl a b
theorem ow_slices_ContainsFunc_Li_Ext_i_Ext : ow 144 = [] := rfl
theorem run_w_szEntryS (a : List V) (b : List Blk) : Call tab ow 146 a b = Rn tab ow (endK ⟨12, b_w_szEntryS, [.tmp 4], .false, .false⟩ b.length) [.code b_w_szEntryS] (start a b) := Call_run (af := a_w_szEntryS) rfl a b
theorem ow_w_szEntryS : ow 146 = [] := rfl
theorem run_s_SystemOK (a : List V) (b : List Blk) : Call tab ow 147 a b = Rn tab ow (endK ⟨49, b_s_SystemOK, [.tmp 2], .false, .false⟩ b.length) [.code b_s_SystemOK] (start a b) := Call_run (af := a_s_SystemOK) rfl a b
theorem ow_s_SystemOK : ow 147 = [] := rfl
theorem run_w_toEntryS (a : List V) (b : List Blk) : Call tab ow 149 a b = Rn tab ow (endK ⟨23, b_w_toEntryS, [.tmp 2], .false, .false⟩ b.length) [.code b_w_toEntryS] (start a b) := Call_run (af := a_w_toEntryS) rfl a b
theorem ow_w_toEntryS : ow 149 = [] := rfl
theorem run_w_eqEntryS (a : List V) (b : List Blk) : Call tab ow 151 a b = Rn tab ow (endK ⟨27, b_w_eqEntryS, [.tmp 4], .false, .false⟩ b.length) [.code b_w_eqEntryS] (start a b) := Call_run (af := a_w_eqEntryS) rfl a b
theorem ow_w_eqEntryS : ow 151 = [] := rfl
theorem run_s_l10Fields (a : List V) (b : List Blk) : Call tab ow 153 a b = Rn tab ow (endK ⟨16, b_s_l10Fields, [.tmp 2], .false, .false⟩ b.length) [.code b_s_l10Fields] (start a b) := Call_run (af := a_s_l10Fields) rfl a b
theorem ow_s_l10Fields : ow 153 = [] := rfl
theorem run_s_l13Public (a : List V) (b : List Blk) : Call tab ow 154 a b = Rn tab ow (endK ⟨25, b_s_l13Public, [.cell 6 (.some 2)], .false, .false⟩ b.length) [.code b_s_l13Public] (start a b) := Call_run (af := a_s_l13Public) rfl a b
theorem ow_s_l13Public : ow 154 = [] := rfl
theorem run_i_isMatrix (a : List V) (b : List Blk) : Call tab ow 169 a b = Rn tab ow (endK ⟨54, b_i_isMatrix, [.tmp 6], .false, .false⟩ b.length) [.code b_i_isMatrix] (start a b) := Call_run (af := a_i_isMatrix) rfl a b
theorem ow_i_isMatrix : ow 169 = [] := rfl
theorem run_s_l10List (a : List V) (b : List Blk) : Call tab ow 171 a b = Rn tab ow (endK ⟨81, b_s_l10List, [.tmp 6], .false, .false⟩ b.length) [.code b_s_l10List] (start a b) := Call_run (af := a_s_l10List) rfl a b
theorem ow_s_l10List : ow 171 = [] := rfl
theorem run_i_System_matrices (a : List V) (b : List Blk) : Call tab ow 203 a b = Rn tab ow (endK ⟨10, b_i_System_matrices, [.cell 2 (.some 3)], .false, .false⟩ b.length) [.code b_i_System_matrices] (start a b) := Call_run (af := a_i_System_matrices) rfl a b
theorem ow_i_System_matrices : ow 203 = [] := rfl
theorem run_slices_ContainsFunc_Lint_int (a : List V) (b : List Blk) : Call tab ow 204 a b = Rn tab ow (endK ⟨9, b_slices_ContainsFunc_Lint_int, [.tmp 4], .false, .false⟩ b.length) [.code b_slices_ContainsFunc_Lint_int] (start a b) := Call_run (af := a_slices_ContainsFunc_Lint_int) rfl a b
theorem ow_slices_ContainsFunc_Lint_int : ow 204 = [] := rfl
theorem run_i_are_int_1 (a : List V) (b : List Blk) : Call tab ow 205 a b = Rn tab ow (endK ⟨8, b_i_are_int_1, [.tmp 3], .false, .false⟩ b.length) [.code b_i_are_int_1] (start a b) := Call_run (af := a_i_are_int_1) rfl a b
theorem ow_i_are_int_1 : ow 205 = [] := rfl
theorem run_i_are_i_Ext_1 (a : List V) (b : List Blk) : Call tab ow 206 a b = Rn tab ow (endK ⟨8, b_i_are_i_Ext_1, [.tmp 3], .false, .false⟩ b.length) [.code b_i_are_i_Ext_1] (start a b) := Call_run (af := a_i_are_i_Ext_1) rfl a b
theorem ow_i_are_i_Ext_1 : ow 206 = [] := rfl
theorem run_i_exts (a : List V) (b : List Blk) : Call tab ow 207 a b = Rn tab ow (endK ⟨20, b_i_exts, [.tmp 2], .false, .false⟩ b.length) [.code b_i_exts] (start a b) := Call_run (af := a_i_exts) rfl a b
theorem ow_i_exts : ow 207 = [] := rfl
theorem run_i_one (a : List V) (b : List Blk) : Call tab ow 208 a b = Rn tab ow (endK ⟨2, b_i_one, [.cell 0 (.some 2)], .false, .false⟩ b.length) [.code b_i_one] (start a b) := Call_run (af := a_i_one) rfl a b
theorem ow_i_one : ow 208 = [] := rfl
theorem run_i_Ext_minus (a : List V) (b : List Blk) : Call tab ow 209 a b = Rn tab ow (endK ⟨16, b_i_Ext_minus, [.cell 4 (.some 2)], .false, .false⟩ b.length) [.code b_i_Ext_minus] (start a b) := Call_run (af := a_i_Ext_minus) rfl a b
theorem ow_i_Ext_minus : ow 209 = [] := rfl
theorem run_i_add (a : List V) (b : List Blk) : Call tab ow 211 a b = Rn tab ow (endK ⟨9, b_i_add, [.tmp 4], .false, .false⟩ b.length) [.code b_i_add] (start a b) := Call_run (af := a_i_add) rfl a b
theorem ow_i_add : ow 211 = [] := rfl
theorem run_i_mul (a : List V) (b : List Blk) : Call tab ow 212 a b = Rn tab ow (endK ⟨9, b_i_mul, [.tmp 4], .false, .false⟩ b.length) [.code b_i_mul] (start a b) := Call_run (af := a_i_mul) rfl a b
theorem ow_i_mul : ow 212 = [] := rfl
theorem run_s_ExtOK (a : List V) (b : List Blk) : Call tab ow 216 a b = Rn tab ow (endK ⟨11, b_s_ExtOK, [.tmp 2], .false, .false⟩ b.length) [.code b_s_ExtOK] (start a b) := Call_run (af := a_s_ExtOK) rfl a b
theorem ow_s_ExtOK : ow 216 = [] := rfl
theorem run_s_l01Add (a : List V) (b : List Blk) : Call tab ow 219 a b = Rn tab ow (endK ⟨9, b_s_l01Add, [.tmp 4], .false, .false⟩ b.length) [.code b_s_l01Add] (start a b) := Call_run (af := a_s_l01Add) rfl a b
theorem ow_s_l01Add : ow 219 = [] := rfl
theorem run_s_l01Mul (a : List V) (b : List Blk) : Call tab ow 220 a b = Rn tab ow (endK ⟨9, b_s_l01Mul, [.tmp 4], .false, .false⟩ b.length) [.code b_s_l01Mul] (start a b) := Call_run (af := a_s_l01Mul) rfl a b
theorem ow_s_l01Mul : ow 220 = [] := rfl
theorem run_s_l02Of (a : List V) (b : List Blk) : Call tab ow 224 a b = Rn tab ow (endK ⟨5, b_s_l02Of, [.cell 2 (.some 2)], .false, .false⟩ b.length) [.code b_s_l02Of] (start a b) := Call_run (af := a_s_l02Of) rfl a b
theorem ow_s_l02Of : ow 224 = [] := rfl
theorem run_s_l02Sub (a : List V) (b : List Blk) : Call tab ow 225 a b = Rn tab ow (endK ⟨16, b_s_l02Sub, [.cell 4 (.some 2)], .false, .false⟩ b.length) [.code b_s_l02Sub] (start a b) := Call_run (af := a_s_l02Sub) rfl a b
theorem ow_s_l02Sub : ow 225 = [] := rfl
theorem run_slices_IndexFunc_Li_Ext_i_Ext (a : List V) (b : List Blk) : Call tab ow 234 a b = Rn tab ow (endK ⟨19, b_slices_IndexFunc_Li_Ext_i_Ext, [.tmp 4], .false, .false⟩ b.length) [.code b_slices_IndexFunc_Li_Ext_i_Ext] (start a b) := Call_run (af := a_slices_IndexFunc_Li_Ext_i_Ext) rfl a b
theorem ow_slices_IndexFunc_Li_Ext_i_Ext : ow 234 = [] := rfl
theorem run_s_l06Eq (a : List V) (b : List Blk) : Call tab ow 235 a b = Rn tab ow (endK ⟨55, b_s_l06Eq, [.tmp 2], .false, .false⟩ b.length) [.code b_s_l06Eq] (start a b) := Call_run (af := a_s_l06Eq) rfl a b
theorem ow_s_l06Eq : ow 235 = [] := rfl
theorem run_w_toEntry (a : List V) (b : List Blk) : Call tab ow 236 a b = Rn tab ow (endK ⟨14, b_w_toEntry, [.cell 2 (.some 3)], .false, .false⟩ b.length) [.code b_w_toEntry] (start a b) := Call_run (af := a_w_toEntry) rfl a b
theorem ow_w_toEntry : ow 236 = [] := rfl
theorem run_w_eqEntry (a : List V) (b : List Blk) : Call tab ow 237 a b = Rn tab ow (endK ⟨20, b_w_eqEntry, [.tmp 4], .false, .false⟩ b.length) [.code b_w_eqEntry] (start a b) := Call_run (af := a_w_eqEntry) rfl a b
theorem ow_w_eqEntry : ow 237 = [] := rfl
theorem run_s_FieldOK (a : List V) (b : List Blk) : Call tab ow 238 a b = Rn tab ow (endK ⟨5, b_s_FieldOK, [.tmp 2], .false, .false⟩ b.length) [.code b_s_FieldOK] (start a b) := Call_run (af := a_s_FieldOK) rfl a b
theorem ow_s_FieldOK : ow 238 = [] := rfl
theorem run_s_l06At (a : List V) (b : List Blk) : Call tab ow 239 a b = Rn tab ow (endK ⟨29, b_s_l06At, [.cell 4 (.some 2)], .false, .false⟩ b.length) [.code b_s_l06At] (start a b) := Call_run (af := a_s_l06At) rfl a b
theorem ow_s_l06At : ow 239 = [] := rfl
theorem run_s_l12Exts (a : List V) (b : List Blk) : Call tab ow 240 a b = Rn tab ow (endK ⟨24, b_s_l12Exts, [.tmp 4], .false, .false⟩ b.length) [.code b_s_l12Exts] (start a b) := Call_run (af := a_s_l12Exts) rfl a b
theorem ow_s_l12Exts : ow 240 = [] := rfl
theorem run_s_l10Vector (a : List V) (b : List Blk) : Call tab ow 241 a b = Rn tab ow (endK ⟨51, b_s_l10Vector, [.tmp 6], .false, .false⟩ b.length) [.code b_s_l10Vector] (start a b) := Call_run (af := a_s_l10Vector) rfl a b
theorem ow_s_l10Vector : ow 241 = [] := rfl
theorem run_i_Entry_order (a : List V) (b : List Blk) : Call tab ow 251 a b = Rn tab ow (endK ⟨17, b_i_Entry_order, [.tmp 4], .false, .false⟩ b.length) [.code b_i_Entry_order] (start a b) := Call_run (af := a_i_Entry_order) rfl a b
theorem ow_i_Entry_order : ow 251 = [] := rfl
theorem run_slices_IndexFunc_Lint_int (a : List V) (b : List Blk) : Call tab ow 265 a b = Rn tab ow (endK ⟨19, b_slices_IndexFunc_Lint_int, [.tmp 4], .false, .false⟩ b.length) [.code b_slices_IndexFunc_Lint_int] (start a b) := Call_run (af := a_slices_IndexFunc_Lint_int) rfl a b
theorem ow_slices_IndexFunc_Lint_int : ow 265 = [] := rfl
theorem run_i_sub (a : List V) (b : List Blk) : Call tab ow 266 a b = Rn tab ow (endK ⟨10, b_i_sub, [.tmp 4], .false, .false⟩ b.length) [.code b_i_sub] (start a b) := Call_run (af := a_i_sub) rfl a b
theorem ow_i_sub : ow 266 = [] := rfl
theorem run_s_l01Sub (a : List V) (b : List Blk) : Call tab ow 269 a b = Rn tab ow (endK ⟨10, b_s_l01Sub, [.tmp 4], .false, .false⟩ b.length) [.code b_s_l01Sub] (start a b) := Call_run (af := a_s_l01Sub) rfl a b
theorem ow_s_l01Sub : ow 269 = [] := rfl
theorem run_s_l06One (a : List V) (b : List Blk) : Call tab ow 271 a b = Rn tab ow (endK ⟨2, b_s_l06One, [.cell 0 (.some 2)], .false, .false⟩ b.length) [.code b_s_l06One] (start a b) := Call_run (af := a_s_l06One) rfl a b
theorem ow_s_l06One : ow 271 = [] := rfl
theorem run_s_l06Less (a : List V) (b : List Blk) : Call tab ow 272 a b = Rn tab ow (endK ⟨6, b_s_l06Less, [.cell 2 (.some 2)], .false, .false⟩ b.length) [.code b_s_l06Less] (start a b) := Call_run (af := a_s_l06Less) rfl a b
theorem ow_s_l06Less : ow 272 = [] := rfl
theorem run_cmp_Or_int (a : List V) (b : List Blk) : Call tab ow 278 a b = Rn tab ow (endK ⟨18, b_cmp_Or_int, [.tmp 2], .false, .false⟩ b.length) [.code b_cmp_Or_int] (start a b) := Call_run (af := a_cmp_Or_int) rfl a b
theorem ow_cmp_Or_int : ow 278 = [] := rfl
theorem run_cmp_Compare_int (a : List V) (b : List Blk) : Call tab ow 279 a b = Rn tab ow (endK ⟨20, b_cmp_Compare_int, [.tmp 4], .false, .false⟩ b.length) [.code b_cmp_Compare_int] (start a b) := Call_run (af := a_cmp_Compare_int) rfl a b
theorem ow_cmp_Compare_int : ow 279 = [] := rfl
theorem run_cmp_isNaN_int (a : List V) (b : List Blk) : Call tab ow 293 a b = Rn tab ow (endK ⟨6, b_cmp_isNaN_int, [.tmp 2], .false, .false⟩ b.length) [.code b_cmp_isNaN_int] (start a b) := Call_run (af := a_cmp_isNaN_int) rfl a b
theorem ow_cmp_isNaN_int : ow 293 = [] := rfl
attribute [go_sem] ow_w_FnExactPublicAt ow_i_PublicAt ow_w_szSystem ow_w_szExtS ow_w_toSystem ow_w_toExtS ow_w_toExt ow_w_eqExtS ow_w_eqSystem ow_s_PublicAt
attribute [go_sem] ow_w_toIntS ow_w_eqExt ow_w_eqIntS ow_i_SystemOK ow_i_are_int ow_i_FieldOK ow_i_are_i_Ext ow_i_ExtOK ow_i_publicAt ow_i_System_half
attribute [go_sem] ow_i_System_vector ow_i_dot ow_i_eqTable ow_i_in ow_i_Ext_times ow_i_Ext_plus ow_s_l02List ow_s_l02Add ow_s_l02Mul ow_s_l01In
attribute [go_sem] ow_slices_ContainsFunc_Li_Ext_i_Ext ow_w_szEntryS ow_s_SystemOK ow_w_toEntryS ow_w_eqEntryS ow_s_l10Fields ow_s_l13Public ow_i_isMatrix ow_s_l10List ow_i_System_matrices
attribute [go_sem] ow_slices_ContainsFunc_Lint_int ow_i_are_int_1 ow_i_are_i_Ext_1 ow_i_exts ow_i_one ow_i_Ext_minus ow_i_add ow_i_mul ow_s_ExtOK ow_s_l01Add
attribute [go_sem] ow_s_l01Mul ow_s_l02Of ow_s_l02Sub ow_slices_IndexFunc_Li_Ext_i_Ext ow_s_l06Eq ow_w_toEntry ow_w_eqEntry ow_s_FieldOK ow_s_l06At ow_s_l12Exts
attribute [go_sem] ow_s_l10Vector ow_i_Entry_order ow_slices_IndexFunc_Lint_int ow_i_sub ow_s_l01Sub ow_s_l06One ow_s_l06Less ow_cmp_Or_int ow_cmp_Compare_int ow_cmp_isNaN_int
end Go.AI.Fn
