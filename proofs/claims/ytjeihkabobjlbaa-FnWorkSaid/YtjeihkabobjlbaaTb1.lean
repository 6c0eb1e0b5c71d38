/- The table. -/
import Derived.Test.YtjeihkabobjlbaaTb0
import Derived.Test.YtjeihkabobjlbaaAiW
set_option linter.unusedVariables false
set_option maxRecDepth 100000
namespace Go.AI.Fn
def tabL : List (Nat × FDef) := [(7, .code a_w_FnWork), (8, .code a_w_FnExactProofSize), (9, .code a_w_FnExactWorkOf), (11, .code a_w_toSetting), (19, .code a_s_SystemDrawn), (20, .code a_s_SettingOf), (21, .code a_i_WorkOf), (22, .code a_s_WorkOf), (23, .code a_w_szSystem), (24, .code a_s_ProofSize), (25, .code a_w_toSystem), (26, .code a_i_ProofSize), (27, .code a_w_eqSystem), (28, .code a_s_SettingOK), (30, .code a_i_SettingOK), (32, .code a_s_l01In), (33, .code a_i_in), (34, .code a_s_l00Source), (35, .code a_s_l00Src_system), (36, .code a_s_l00Src_setting), (37, .code a_i_SystemOK), (38, .code a_i_workOf), (39, .code a_s_SystemOK), (40, .code a_s_l15Calls), (41, .code a_w_szEntryS), (42, .code a_s_l14Size), (43, .code a_w_toEntryS), (44, .code a_i_proofSize), (45, .code a_w_eqEntryS), (47, .code a_s_l00Src_next), (48, .code a_s_l00Src_entries), (49, .code a_i_System_half), (50, .code a_i_System_matrices), (51, .code a_i_isMatrix), (52, .code a_i_workOf_1), (53, .code a_i_callsFor), (54, .code a_i_workOf_2), (55, .code a_i_System_digestText), (56, .code a_s_l10List), (57, .code a_s_l09Size), (58, .code a_w_toEntry), (59, .code a_i_openingSize), (60, .code a_w_eqEntry), (61, .code a_s_l00Src_byte), (62, .code a_s_l00Src_chance), (63, .code a_s_l00Src_field), (64, .code a_i_Entry_order), (65, .code a_i_four), (66, .code a_cmp_Or_int), (67, .code a_cmp_Compare_int), (68, .code a_cmp_isNaN_int)]
def tab : Tab := fun f => aget tabL f
def owL : List (Nat × List Nat) := [(65, [0, 1000])]
def ow : Owns := fun f => (aget owL f).getD []
theorem run_w_FnWork (a : List V) (b : List Blk) : Call tab ow 7 a b = Rn tab ow (endK ⟨65, b_w_FnWork, [.tmp 4], .false, .false⟩ b.length) [.code b_w_FnWork] (start a b) := Call_run (af := a_w_FnWork) rfl a b
theorem ow_w_FnWork : ow 7 = [] := rfl
theorem run_w_FnExactProofSize (a : List V) (b : List Blk) : Call tab ow 8 a b = Rn tab ow (endK ⟨46, b_w_FnExactProofSize, [.tmp 4], .false, .false⟩ b.length) [.code b_w_FnExactProofSize] (start a b) := Call_run (af := a_w_FnExactProofSize) rfl a b
theorem ow_w_FnExactProofSize : ow 8 = [] := rfl
theorem run_w_FnExactWorkOf (a : List V) (b : List Blk) : Call tab ow 9 a b = Rn tab ow (endK ⟨46, b_w_FnExactWorkOf, [.tmp 4], .false, .false⟩ b.length) [.code b_w_FnExactWorkOf] (start a b) := Call_run (af := a_w_FnExactWorkOf) rfl a b
theorem ow_w_FnExactWorkOf : ow 9 = [] := rfl
theorem run_w_toSetting (a : List V) (b : List Blk) : Call tab ow 11 a b = Rn tab ow (endK ⟨14, b_w_toSetting, [.cell 2 (.some 3)], .false, .false⟩ b.length) [.code b_w_toSetting] (start a b) := Call_run (af := a_w_toSetting) rfl a b
theorem ow_w_toSetting : ow 11 = [] := rfl
theorem run_s_SystemDrawn (a : List V) (b : List Blk) : Call tab ow 19 a b = Rn tab ow (endK ⟨6, b_s_SystemDrawn, [.cell 2 (.some 6)], .false, .false⟩ b.length) [.code b_s_SystemDrawn] (start a b) := Call_run (af := a_s_SystemDrawn) rfl a b
theorem ow_s_SystemDrawn : ow 19 = [] := rfl
theorem run_s_SettingOf (a : List V) (b : List Blk) : Call tab ow 20 a b = Rn tab ow (endK ⟨6, b_s_SettingOf, [.cell 2 (.some 3)], .false, .false⟩ b.length) [.code b_s_SettingOf] (start a b) := Call_run (af := a_s_SettingOf) rfl a b
theorem ow_s_SettingOf : ow 20 = [] := rfl
theorem run_i_WorkOf (a : List V) (b : List Blk) : Call tab ow 21 a b = Rn tab ow (endK ⟨17, b_i_WorkOf, [.tmp 4, .tmp 5], .false, .false⟩ b.length) [.code b_i_WorkOf] (start a b) := Call_run (af := a_i_WorkOf) rfl a b
theorem ow_i_WorkOf : ow 21 = [] := rfl
theorem run_s_WorkOf (a : List V) (b : List Blk) : Call tab ow 22 a b = Rn tab ow (endK ⟨118, b_s_WorkOf, [.tmp 4, .tmp 5], .false, .false⟩ b.length) [.code b_s_WorkOf] (start a b) := Call_run (af := a_s_WorkOf) rfl a b
theorem ow_s_WorkOf : ow 22 = [] := rfl
theorem run_w_szSystem (a : List V) (b : List Blk) : Call tab ow 23 a b = Rn tab ow (endK ⟨24, b_w_szSystem, [.tmp 4], .false, .false⟩ b.length) [.code b_w_szSystem] (start a b) := Call_run (af := a_w_szSystem) rfl a b
theorem ow_w_szSystem : ow 23 = [] := rfl
theorem run_s_ProofSize (a : List V) (b : List Blk) : Call tab ow 24 a b = Rn tab ow (endK ⟨17, b_s_ProofSize, [.tmp 4, .tmp 5], .false, .false⟩ b.length) [.code b_s_ProofSize] (start a b) := Call_run (af := a_s_ProofSize) rfl a b
theorem ow_s_ProofSize : ow 24 = [] := rfl
theorem run_w_toSystem (a : List V) (b : List Blk) : Call tab ow 25 a b = Rn tab ow (endK ⟨26, b_w_toSystem, [.cell 2 (.some 6)], .false, .false⟩ b.length) [.code b_w_toSystem] (start a b) := Call_run (af := a_w_toSystem) rfl a b
theorem ow_w_toSystem : ow 25 = [] := rfl
theorem run_i_ProofSize (a : List V) (b : List Blk) : Call tab ow 26 a b = Rn tab ow (endK ⟨17, b_i_ProofSize, [.tmp 4, .tmp 5], .false, .false⟩ b.length) [.code b_i_ProofSize] (start a b) := Call_run (af := a_i_ProofSize) rfl a b
theorem ow_i_ProofSize : ow 26 = [] := rfl
theorem run_w_eqSystem (a : List V) (b : List Blk) : Call tab ow 27 a b = Rn tab ow (endK ⟨38, b_w_eqSystem, [.tmp 4], .false, .false⟩ b.length) [.code b_w_eqSystem] (start a b) := Call_run (af := a_w_eqSystem) rfl a b
theorem ow_w_eqSystem : ow 27 = [] := rfl
theorem run_s_SettingOK (a : List V) (b : List Blk) : Call tab ow 28 a b = Rn tab ow (endK ⟨16, b_s_SettingOK, [.tmp 2], .false, .false⟩ b.length) [.code b_s_SettingOK] (start a b) := Call_run (af := a_s_SettingOK) rfl a b
theorem ow_s_SettingOK : ow 28 = [] := rfl
theorem run_i_SettingOK (a : List V) (b : List Blk) : Call tab ow 30 a b = Rn tab ow (endK ⟨16, b_i_SettingOK, [.tmp 2], .false, .false⟩ b.length) [.code b_i_SettingOK] (start a b) := Call_run (af := a_i_SettingOK) rfl a b
theorem ow_i_SettingOK : ow 30 = [] := rfl
theorem run_s_l01In (a : List V) (b : List Blk) : Call tab ow 32 a b = Rn tab ow (endK ⟨15, b_s_l01In, [.tmp 6], .false, .false⟩ b.length) [.code b_s_l01In] (start a b) := Call_run (af := a_s_l01In) rfl a b
theorem ow_s_l01In : ow 32 = [] := rfl
theorem run_i_in (a : List V) (b : List Blk) : Call tab ow 33 a b = Rn tab ow (endK ⟨15, b_i_in, [.tmp 6], .false, .false⟩ b.length) [.code b_i_in] (start a b) := Call_run (af := a_i_in) rfl a b
theorem ow_i_in : ow 33 = [] := rfl
theorem run_s_l00Source (a : List V) (b : List Blk) : Call tab ow 34 a b = Rn tab ow (endK ⟨9, b_s_l00Source, [.tmp 2], .true, .false⟩ b.length) [.code b_s_l00Source] (start a b) := Call_run (af := a_s_l00Source) rfl a b
theorem ow_s_l00Source : ow 34 = [] := rfl
theorem run_s_l00Src_system (a : List V) (b : List Blk) : Call tab ow 35 a b = Rn tab ow (endK ⟨41, b_s_l00Src_system, [.cell 2 (.some 6)], .false, .false⟩ b.length) [.code b_s_l00Src_system] (start a b) := Call_run (af := a_s_l00Src_system) rfl a b
theorem ow_s_l00Src_system : ow 35 = [] := rfl
theorem run_s_l00Src_setting (a : List V) (b : List Blk) : Call tab ow 36 a b = Rn tab ow (endK ⟨12, b_s_l00Src_setting, [.cell 2 (.some 3)], .false, .false⟩ b.length) [.code b_s_l00Src_setting] (start a b) := Call_run (af := a_s_l00Src_setting) rfl a b
theorem ow_s_l00Src_setting : ow 36 = [] := rfl
theorem run_i_SystemOK (a : List V) (b : List Blk) : Call tab ow 37 a b = Rn tab ow (endK ⟨39, b_i_SystemOK, [.tmp 2], .false, .false⟩ b.length) [.code b_i_SystemOK] (start a b) := Call_run (af := a_i_SystemOK) rfl a b
theorem ow_i_SystemOK : ow 37 = [] := rfl
theorem run_i_workOf (a : List V) (b : List Blk) : Call tab ow 38 a b = Rn tab ow (endK ⟨117, b_i_workOf, [.tmp 4], .false, .false⟩ b.length) [.code b_i_workOf] (start a b) := Call_run (af := a_i_workOf) rfl a b
theorem ow_i_workOf : ow 38 = [] := rfl
theorem run_s_SystemOK (a : List V) (b : List Blk) : Call tab ow 39 a b = Rn tab ow (endK ⟨49, b_s_SystemOK, [.tmp 2], .false, .false⟩ b.length) [.code b_s_SystemOK] (start a b) := Call_run (af := a_s_SystemOK) rfl a b
theorem ow_s_SystemOK : ow 39 = [] := rfl
theorem run_s_l15Calls (a : List V) (b : List Blk) : Call tab ow 40 a b = Rn tab ow (endK ⟨6, b_s_l15Calls, [.tmp 2], .false, .false⟩ b.length) [.code b_s_l15Calls] (start a b) := Call_run (af := a_s_l15Calls) rfl a b
theorem ow_s_l15Calls : ow 40 = [] := rfl
theorem run_w_szEntryS (a : List V) (b : List Blk) : Call tab ow 41 a b = Rn tab ow (endK ⟨12, b_w_szEntryS, [.tmp 4], .false, .false⟩ b.length) [.code b_w_szEntryS] (start a b) := Call_run (af := a_w_szEntryS) rfl a b
theorem ow_w_szEntryS : ow 41 = [] := rfl
theorem run_s_l14Size (a : List V) (b : List Blk) : Call tab ow 42 a b = Rn tab ow (endK ⟨21, b_s_l14Size, [.tmp 4], .false, .false⟩ b.length) [.code b_s_l14Size] (start a b) := Call_run (af := a_s_l14Size) rfl a b
theorem ow_s_l14Size : ow 42 = [] := rfl
theorem run_w_toEntryS (a : List V) (b : List Blk) : Call tab ow 43 a b = Rn tab ow (endK ⟨23, b_w_toEntryS, [.tmp 2], .false, .false⟩ b.length) [.code b_w_toEntryS] (start a b) := Call_run (af := a_w_toEntryS) rfl a b
theorem ow_w_toEntryS : ow 43 = [] := rfl
theorem run_i_proofSize (a : List V) (b : List Blk) : Call tab ow 44 a b = Rn tab ow (endK ⟨21, b_i_proofSize, [.tmp 4], .false, .false⟩ b.length) [.code b_i_proofSize] (start a b) := Call_run (af := a_i_proofSize) rfl a b
theorem ow_i_proofSize : ow 44 = [] := rfl
theorem run_w_eqEntryS (a : List V) (b : List Blk) : Call tab ow 45 a b = Rn tab ow (endK ⟨27, b_w_eqEntryS, [.tmp 4], .false, .false⟩ b.length) [.code b_w_eqEntryS] (start a b) := Call_run (af := a_w_eqEntryS) rfl a b
theorem ow_w_eqEntryS : ow 45 = [] := rfl
theorem run_s_l00Src_next (a : List V) (b : List Blk) : Call tab ow 47 a b = Rn tab ow (endK ⟨31, b_s_l00Src_next, [.tmp 4], .false, .false⟩ b.length) [.code b_s_l00Src_next] (start a b) := Call_run (af := a_s_l00Src_next) rfl a b
theorem ow_s_l00Src_next : ow 47 = [] := rfl
theorem run_s_l00Src_entries (a : List V) (b : List Blk) : Call tab ow 48 a b = Rn tab ow (endK ⟨37, b_s_l00Src_entries, [.tmp 6], .false, .false⟩ b.length) [.code b_s_l00Src_entries] (start a b) := Call_run (af := a_s_l00Src_entries) rfl a b
theorem ow_s_l00Src_entries : ow 48 = [] := rfl
theorem run_i_System_half (a : List V) (b : List Blk) : Call tab ow 49 a b = Rn tab ow (endK ⟨7, b_i_System_half, [.tmp 2], .false, .false⟩ b.length) [.code b_i_System_half] (start a b) := Call_run (af := a_i_System_half) rfl a b
theorem ow_i_System_half : ow 49 = [] := rfl
theorem run_i_System_matrices (a : List V) (b : List Blk) : Call tab ow 50 a b = Rn tab ow (endK ⟨10, b_i_System_matrices, [.cell 2 (.some 3)], .false, .false⟩ b.length) [.code b_i_System_matrices] (start a b) := Call_run (af := a_i_System_matrices) rfl a b
theorem ow_i_System_matrices : ow 50 = [] := rfl
theorem run_i_isMatrix (a : List V) (b : List Blk) : Call tab ow 51 a b = Rn tab ow (endK ⟨54, b_i_isMatrix, [.tmp 6], .false, .false⟩ b.length) [.code b_i_isMatrix] (start a b) := Call_run (af := a_i_isMatrix) rfl a b
theorem ow_i_isMatrix : ow 51 = [] := rfl
theorem run_i_workOf_1 (a : List V) (b : List Blk) : Call tab ow 52 a b = Rn tab ow (endK ⟨6, b_i_workOf_1, [.tmp 2], .false, .false⟩ b.length) [.code b_i_workOf_1] (start a b) := Call_run (af := a_i_workOf_1) rfl a b
theorem ow_i_workOf_1 : ow 52 = [] := rfl
theorem run_i_callsFor (a : List V) (b : List Blk) : Call tab ow 53 a b = Rn tab ow (endK ⟨6, b_i_callsFor, [.tmp 2], .false, .false⟩ b.length) [.code b_i_callsFor] (start a b) := Call_run (af := a_i_callsFor) rfl a b
theorem ow_i_callsFor : ow 53 = [] := rfl
theorem run_i_workOf_2 (a : List V) (b : List Blk) : Call tab ow 54 a b = Rn tab ow (endK ⟨6, b_i_workOf_2, [.tmp 2], .false, .false⟩ b.length) [.code b_i_workOf_2] (start a b) := Call_run (af := a_i_workOf_2) rfl a b
theorem ow_i_workOf_2 : ow 54 = [] := rfl
theorem run_i_System_digestText (a : List V) (b : List Blk) : Call tab ow 55 a b = Rn tab ow (endK ⟨51, b_i_System_digestText, [.tmp 2], .false, .false⟩ b.length) [.code b_i_System_digestText] (start a b) := Call_run (af := a_i_System_digestText) rfl a b
theorem ow_i_System_digestText : ow 55 = [] := rfl
theorem run_s_l10List (a : List V) (b : List Blk) : Call tab ow 56 a b = Rn tab ow (endK ⟨81, b_s_l10List, [.tmp 6], .false, .false⟩ b.length) [.code b_s_l10List] (start a b) := Call_run (af := a_s_l10List) rfl a b
theorem ow_s_l10List : ow 56 = [] := rfl
theorem run_s_l09Size (a : List V) (b : List Blk) : Call tab ow 57 a b = Rn tab ow (endK ⟨38, b_s_l09Size, [.tmp 4], .false, .false⟩ b.length) [.code b_s_l09Size] (start a b) := Call_run (af := a_s_l09Size) rfl a b
theorem ow_s_l09Size : ow 57 = [] := rfl
theorem run_w_toEntry (a : List V) (b : List Blk) : Call tab ow 58 a b = Rn tab ow (endK ⟨14, b_w_toEntry, [.cell 2 (.some 3)], .false, .false⟩ b.length) [.code b_w_toEntry] (start a b) := Call_run (af := a_w_toEntry) rfl a b
theorem ow_w_toEntry : ow 58 = [] := rfl
theorem run_i_openingSize (a : List V) (b : List Blk) : Call tab ow 59 a b = Rn tab ow (endK ⟨38, b_i_openingSize, [.tmp 4], .false, .false⟩ b.length) [.code b_i_openingSize] (start a b) := Call_run (af := a_i_openingSize) rfl a b
theorem ow_i_openingSize : ow 59 = [] := rfl
theorem run_w_eqEntry (a : List V) (b : List Blk) : Call tab ow 60 a b = Rn tab ow (endK ⟨20, b_w_eqEntry, [.tmp 4], .false, .false⟩ b.length) [.code b_w_eqEntry] (start a b) := Call_run (af := a_w_eqEntry) rfl a b
theorem ow_w_eqEntry : ow 60 = [] := rfl
theorem run_s_l00Src_byte (a : List V) (b : List Blk) : Call tab ow 61 a b = Rn tab ow (endK ⟨76, b_s_l00Src_byte, [.tmp 2], .false, .false⟩ b.length) [.code b_s_l00Src_byte] (start a b) := Call_run (af := a_s_l00Src_byte) rfl a b
theorem ow_s_l00Src_byte : ow 61 = [] := rfl
theorem run_s_l00Src_chance (a : List V) (b : List Blk) : Call tab ow 62 a b = Rn tab ow (endK ⟨11, b_s_l00Src_chance, [.tmp 4], .false, .false⟩ b.length) [.code b_s_l00Src_chance] (start a b) := Call_run (af := a_s_l00Src_chance) rfl a b
theorem ow_s_l00Src_chance : ow 62 = [] := rfl
theorem run_s_l00Src_field (a : List V) (b : List Blk) : Call tab ow 63 a b = Rn tab ow (endK ⟨27, b_s_l00Src_field, [.tmp 2], .false, .false⟩ b.length) [.code b_s_l00Src_field] (start a b) := Call_run (af := a_s_l00Src_field) rfl a b
theorem ow_s_l00Src_field : ow 63 = [] := rfl
theorem run_i_Entry_order (a : List V) (b : List Blk) : Call tab ow 64 a b = Rn tab ow (endK ⟨17, b_i_Entry_order, [.tmp 4], .false, .false⟩ b.length) [.code b_i_Entry_order] (start a b) := Call_run (af := a_i_Entry_order) rfl a b
theorem ow_i_Entry_order : ow 64 = [] := rfl
theorem run_i_four (a : List V) (b : List Blk) : Call tab ow 65 a b = Rn tab ow (endK ⟨19, b_i_four, [.tmp 4], .false, .false⟩ b.length) [.code b_i_four] (start a b) := Call_run (af := a_i_four) rfl a b
theorem ow_i_four : ow 65 = [0, 1000] := rfl
theorem run_cmp_Or_int (a : List V) (b : List Blk) : Call tab ow 66 a b = Rn tab ow (endK ⟨18, b_cmp_Or_int, [.tmp 2], .false, .false⟩ b.length) [.code b_cmp_Or_int] (start a b) := Call_run (af := a_cmp_Or_int) rfl a b
theorem ow_cmp_Or_int : ow 66 = [] := rfl
theorem run_cmp_Compare_int (a : List V) (b : List Blk) : Call tab ow 67 a b = Rn tab ow (endK ⟨20, b_cmp_Compare_int, [.tmp 4], .false, .false⟩ b.length) [.code b_cmp_Compare_int] (start a b) := Call_run (af := a_cmp_Compare_int) rfl a b
theorem ow_cmp_Compare_int : ow 67 = [] := rfl
theorem run_cmp_isNaN_int (a : List V) (b : List Blk) : Call tab ow 68 a b = Rn tab ow (endK ⟨6, b_cmp_isNaN_int, [.tmp 2], .false, .false⟩ b.length) [.code b_cmp_isNaN_int] (start a b) := Call_run (af := a_cmp_isNaN_int) rfl a b
theorem ow_cmp_isNaN_int : ow 68 = [] := rfl
attribute [go_sem] ow_w_FnWork ow_w_FnExactProofSize ow_w_FnExactWorkOf ow_w_toSetting ow_s_SystemDrawn ow_s_SettingOf ow_i_WorkOf ow_s_WorkOf ow_w_szSystem ow_s_ProofSize
attribute [go_sem] ow_w_toSystem ow_i_ProofSize ow_w_eqSystem ow_s_SettingOK ow_i_SettingOK ow_s_l01In ow_i_in ow_s_l00Source ow_s_l00Src_system ow_s_l00Src_setting
attribute [go_sem] ow_i_SystemOK ow_i_workOf ow_s_SystemOK ow_s_l15Calls ow_w_szEntryS ow_s_l14Size ow_w_toEntryS ow_i_proofSize ow_w_eqEntryS ow_s_l00Src_next
attribute [go_sem] ow_s_l00Src_entries ow_i_System_half ow_i_System_matrices ow_i_isMatrix ow_i_workOf_1 ow_i_callsFor ow_i_workOf_2 ow_i_System_digestText ow_s_l10List ow_s_l09Size
attribute [go_sem] ow_w_toEntry ow_i_openingSize ow_w_eqEntry ow_s_l00Src_byte ow_s_l00Src_chance ow_s_l00Src_field ow_i_Entry_order ow_i_four ow_cmp_Or_int ow_cmp_Compare_int
attribute [go_sem] ow_cmp_isNaN_int
end Go.AI.Fn
