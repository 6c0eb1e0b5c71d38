/- The table. -/
import Derived.Test.YthjmakpfalhadaaTb0
import Derived.Test.YthjmakpfalhadaaAiW
set_option linter.unusedVariables false
set_option maxRecDepth 100000
namespace Go.AI.Fn
noncomputable def tabL : List (Nat × FDef) := [(7, .code a_w_FnGrind), (21, .code a_w_at), (41, .code a_s_SourceOf), (42, .code a_i_GrindNonce), (43, .code a_s_GrindNonce), (44, .code a_i_CheckNonce), (93, .code a_s_l00Source), (96, .code a_s_l00Src_exts), (99, .code a_i_FieldOK), (100, .code a_i_are_i_Ext), (101, .code a_i_ExtOK), (109, .code a_s_l00Src_ext), (111, .code a_i_in), (120, .code a_s_l02List), (136, .code a_s_l00Src_source), (137, .code a_i_SourceOK), (138, .code a_i_Source_grind), (139, .code a_s_SourceOK), (140, .code a_s_l01In), (141, .code a_s_l05Grind), (142, .code a_i_Source_does), (144, .code a_slices_ContainsFunc_Li_Ext_i_Ext), (168, .code a_i_keccak), (181, .code a_i_isHash), (200, .code a_s_l00Src_next), (202, .code a_s_l00Src_field), (206, .code a_i_are_i_Ext_1), (210, .code a_s_l00Src_chance), (215, .code a_i_four), (216, .code a_s_ExtOK), (217, .code a_s_l02Number), (218, .code a_i_number), (228, .code a_s_l05New), (229, .code a_s_l00Src_pick), (230, .code a_s_l05Absorb), (231, .code a_s_l05Draw), (232, .code a_s_l05Own), (233, .code a_s_l05Fits), (234, .code a_slices_IndexFunc_Li_Ext_i_Ext), (238, .code a_s_FieldOK), (247, .code a_s_l03Hash), (248, .code a_i_lanesOf), (249, .code a_i_lanes_permute), (250, .code a_i_lanes_text), (264, .code a_s_l00Src_byte), (270, .code a_s_l05Field), (274, .code a_s_l03Lanes), (275, .code a_s_l03Permute), (276, .code a_s_l03Text), (277, .code a_math_bits_RotateLeft64), (290, .code a_s_l03Rounds), (291, .code a_s_l03Shifts), (292, .code a_s_l03Turn)]
noncomputable def tab : Tab := fun f => aget tabL f
def owL : List (Nat × List Nat) := [(215, [0, 1000])]
def ow : Owns := fun f => (aget owL f).getD []
theorem run_w_FnGrind (a : List V) (b : List Blk) : Call tab ow 7 a b = Rn tab ow (endK ⟨106, b_w_FnGrind, [.tmp 4], .false, .false⟩ b.length) [.code b_w_FnGrind] (start a b) := Call_run (af := a_w_FnGrind) rfl a b
theorem ow_w_FnGrind : ow 7 = [] := rfl
theorem run_w_at (a : List V) (b : List Blk) : Call tab ow 21 a b = Rn tab ow (endK ⟨42, b_w_at, [.tmp 6], .false, .false⟩ b.length) [.code b_w_at] (start a b) := Call_run (af := a_w_at) rfl a b
theorem ow_w_at : ow 21 = [] := rfl
theorem run_s_SourceOf (a : List V) (b : List Blk) : Call tab ow 41 a b = Rn tab ow (endK ⟨6, b_s_SourceOf, [.cell 2 (.some 4)], .false, .false⟩ b.length) [.code b_s_SourceOf] (start a b) := Call_run (af := a_s_SourceOf) rfl a b
theorem ow_s_SourceOf : ow 41 = [] := rfl
theorem run_i_GrindNonce (a : List V) (b : List Blk) : Call tab ow 42 a b = Rn tab ow (endK ⟨21, b_i_GrindNonce, [.tmp 4, .tmp 5], .false, .false⟩ b.length) [.code b_i_GrindNonce] (start a b) := Call_run (af := a_i_GrindNonce) rfl a b
theorem ow_i_GrindNonce : ow 42 = [] := rfl
theorem run_s_GrindNonce (a : List V) (b : List Blk) : Call tab ow 43 a b = Rn tab ow (endK ⟨23, b_s_GrindNonce, [.tmp 4, .tmp 5], .false, .false⟩ b.length) [.code b_s_GrindNonce] (start a b) := Call_run (af := a_s_GrindNonce) rfl a b
theorem ow_s_GrindNonce : ow 43 = [] := rfl
theorem run_i_CheckNonce (a : List V) (b : List Blk) : Call tab ow 44 a b = Rn tab ow (endK ⟨25, b_i_CheckNonce, [.tmp 6, .tmp 7], .false, .false⟩ b.length) [.code b_i_CheckNonce] (start a b) := Call_run (af := a_i_CheckNonce) rfl a b
theorem ow_i_CheckNonce : ow 44 = [] := rfl
theorem run_s_l00Source (a : List V) (b : List Blk) : Call tab ow 93 a b = Rn tab ow (endK ⟨9, b_s_l00Source, [.tmp 2], .true, .false⟩ b.length) [.code b_s_l00Source] (start a b) := Call_run (af := a_s_l00Source) rfl a b
theorem ow_s_l00Source : ow 93 = [] := rfl
theorem run_s_l00Src_exts (a : List V) (b : List Blk) : Call tab ow 96 a b = Rn tab ow (endK ⟨19, b_s_l00Src_exts, [.tmp 4], .false, .false⟩ b.length) [.code b_s_l00Src_exts] (start a b) := Call_run (af := a_s_l00Src_exts) rfl a b
theorem ow_s_l00Src_exts : ow 96 = [] := rfl
theorem run_i_FieldOK (a : List V) (b : List Blk) : Call tab ow 99 a b = Rn tab ow (endK ⟨5, b_i_FieldOK, [.tmp 2], .false, .false⟩ b.length) [.code b_i_FieldOK] (start a b) := Call_run (af := a_i_FieldOK) rfl a b
theorem ow_i_FieldOK : ow 99 = [] := rfl
theorem run_i_are_i_Ext (a : List V) (b : List Blk) : Call tab ow 100 a b = Rn tab ow (endK ⟨9, b_i_are_i_Ext, [.tmp 4], .false, .false⟩ b.length) [.code b_i_are_i_Ext] (start a b) := Call_run (af := a_i_are_i_Ext) rfl a b
theorem ow_i_are_i_Ext : ow 100 = [] := rfl
theorem run_i_ExtOK (a : List V) (b : List Blk) : Call tab ow 101 a b = Rn tab ow (endK ⟨11, b_i_ExtOK, [.tmp 2], .false, .false⟩ b.length) [.code b_i_ExtOK] (start a b) := Call_run (af := a_i_ExtOK) rfl a b
theorem ow_i_ExtOK : ow 101 = [] := rfl
theorem run_s_l00Src_ext (a : List V) (b : List Blk) : Call tab ow 109 a b = Rn tab ow (endK ⟨13, b_s_l00Src_ext, [.cell 2 (.some 2)], .false, .false⟩ b.length) [.code b_s_l00Src_ext] (start a b) := Call_run (af := a_s_l00Src_ext) rfl a b
theorem ow_s_l00Src_ext : ow 109 = [] := rfl
theorem run_i_in (a : List V) (b : List Blk) : Call tab ow 111 a b = Rn tab ow (endK ⟨15, b_i_in, [.tmp 6], .false, .false⟩ b.length) [.code b_i_in] (start a b) := Call_run (af := a_i_in) rfl a b
theorem ow_i_in : ow 111 = [] := rfl
theorem run_s_l02List (a : List V) (b : List Blk) : Call tab ow 120 a b = Rn tab ow (endK ⟨16, b_s_l02List, [.tmp 2], .false, .false⟩ b.length) [.code b_s_l02List] (start a b) := Call_run (af := a_s_l02List) rfl a b
theorem ow_s_l02List : ow 120 = [] := rfl
theorem run_s_l00Src_source (a : List V) (b : List Blk) : Call tab ow 136 a b = Rn tab ow (endK ⟨38, b_s_l00Src_source, [.cell 2 (.some 4)], .false, .false⟩ b.length) [.code b_s_l00Src_source] (start a b) := Call_run (af := a_s_l00Src_source) rfl a b
theorem ow_s_l00Src_source : ow 136 = [] := rfl
theorem run_i_SourceOK (a : List V) (b : List Blk) : Call tab ow 137 a b = Rn tab ow (endK ⟨27, b_i_SourceOK, [.tmp 2], .false, .false⟩ b.length) [.code b_i_SourceOK] (start a b) := Call_run (af := a_i_SourceOK) rfl a b
theorem ow_i_SourceOK : ow 137 = [] := rfl
theorem run_i_Source_grind (a : List V) (b : List Blk) : Call tab ow 138 a b = Rn tab ow (endK ⟨15, b_i_Source_grind, [.tmp 4], .false, .false⟩ b.length) [.code b_i_Source_grind] (start a b) := Call_run (af := a_i_Source_grind) rfl a b
theorem ow_i_Source_grind : ow 138 = [] := rfl
theorem run_s_SourceOK (a : List V) (b : List Blk) : Call tab ow 139 a b = Rn tab ow (endK ⟨28, b_s_SourceOK, [.tmp 2], .false, .false⟩ b.length) [.code b_s_SourceOK] (start a b) := Call_run (af := a_s_SourceOK) rfl a b
theorem ow_s_SourceOK : ow 139 = [] := rfl
theorem run_s_l01In (a : List V) (b : List Blk) : Call tab ow 140 a b = Rn tab ow (endK ⟨15, b_s_l01In, [.tmp 6], .false, .false⟩ b.length) [.code b_s_l01In] (start a b) := Call_run (af := a_s_l01In) rfl a b
theorem ow_s_l01In : ow 140 = [] := rfl
theorem run_s_l05Grind (a : List V) (b : List Blk) : Call tab ow 141 a b = Rn tab ow (endK ⟨16, b_s_l05Grind, [.tmp 4, .tmp 5], .false, .false⟩ b.length) [.code b_s_l05Grind] (start a b) := Call_run (af := a_s_l05Grind) rfl a b
theorem ow_s_l05Grind : ow 141 = [] := rfl
theorem run_i_Source_does (a : List V) (b : List Blk) : Call tab ow 142 a b = Rn tab ow (endK ⟨25, b_i_Source_does, [.tmp 6], .false, .false⟩ b.length) [.code b_i_Source_does] (start a b) := Call_run (af := a_i_Source_does) rfl a b
theorem ow_i_Source_does : ow 142 = [] := rfl
theorem run_slices_ContainsFunc_Li_Ext_i_Ext (a : List V) (b : List Blk) : Call tab ow 144 a b = Rn tab ow (endK ⟨9, b_slices_ContainsFunc_Li_Ext_i_Ext, [.tmp 4], .false, .false⟩ b.length) [.code b_slices_ContainsFunc_Li_Ext_i_Ext] (start a b) := Call_run (af := a_slices_ContainsFunc_Li_Ext_i_Ext) rfl a b
theorem ow_slices_ContainsFunc_Li_Ext_i_Ext : ow 144 = [] := rfl
theorem run_i_keccak (a : List V) (b : List Blk) : Call tab ow 168 a b = Rn tab ow (endK ⟨62, b_i_keccak, [.tmp 2], .false, .false⟩ b.length) [.code b_i_keccak] (start a b) := Call_run (af := a_i_keccak) rfl a b
theorem ow_i_keccak : ow 168 = [] := rfl
theorem run_i_isHash (a : List V) (b : List Blk) : Call tab ow 181 a b = Rn tab ow (endK ⟨6, b_i_isHash, [.tmp 2], .false, .false⟩ b.length) [.code b_i_isHash] (start a b) := Call_run (af := a_i_isHash) rfl a b
theorem ow_i_isHash : ow 181 = [] := rfl
theorem run_s_l00Src_next (a : List V) (b : List Blk) : Call tab ow 200 a b = Rn tab ow (endK ⟨31, b_s_l00Src_next, [.tmp 4], .false, .false⟩ b.length) [.code b_s_l00Src_next] (start a b) := Call_run (af := a_s_l00Src_next) rfl a b
theorem ow_s_l00Src_next : ow 200 = [] := rfl
theorem run_s_l00Src_field (a : List V) (b : List Blk) : Call tab ow 202 a b = Rn tab ow (endK ⟨27, b_s_l00Src_field, [.tmp 2], .false, .false⟩ b.length) [.code b_s_l00Src_field] (start a b) := Call_run (af := a_s_l00Src_field) rfl a b
theorem ow_s_l00Src_field : ow 202 = [] := rfl
theorem run_i_are_i_Ext_1 (a : List V) (b : List Blk) : Call tab ow 206 a b = Rn tab ow (endK ⟨8, b_i_are_i_Ext_1, [.tmp 3], .false, .false⟩ b.length) [.code b_i_are_i_Ext_1] (start a b) := Call_run (af := a_i_are_i_Ext_1) rfl a b
theorem ow_i_are_i_Ext_1 : ow 206 = [] := rfl
theorem run_s_l00Src_chance (a : List V) (b : List Blk) : Call tab ow 210 a b = Rn tab ow (endK ⟨11, b_s_l00Src_chance, [.tmp 4], .false, .false⟩ b.length) [.code b_s_l00Src_chance] (start a b) := Call_run (af := a_s_l00Src_chance) rfl a b
theorem ow_s_l00Src_chance : ow 210 = [] := rfl
theorem run_i_four (a : List V) (b : List Blk) : Call tab ow 215 a b = Rn tab ow (endK ⟨19, b_i_four, [.tmp 4], .false, .false⟩ b.length) [.code b_i_four] (start a b) := Call_run (af := a_i_four) rfl a b
theorem ow_i_four : ow 215 = [0, 1000] := rfl
theorem run_s_ExtOK (a : List V) (b : List Blk) : Call tab ow 216 a b = Rn tab ow (endK ⟨11, b_s_ExtOK, [.tmp 2], .false, .false⟩ b.length) [.code b_s_ExtOK] (start a b) := Call_run (af := a_s_ExtOK) rfl a b
theorem ow_s_ExtOK : ow 216 = [] := rfl
theorem run_s_l02Number (a : List V) (b : List Blk) : Call tab ow 217 a b = Rn tab ow (endK ⟨24, b_s_l02Number, [.tmp 4], .false, .false⟩ b.length) [.code b_s_l02Number] (start a b) := Call_run (af := a_s_l02Number) rfl a b
theorem ow_s_l02Number : ow 217 = [] := rfl
theorem run_i_number (a : List V) (b : List Blk) : Call tab ow 218 a b = Rn tab ow (endK ⟨19, b_i_number, [.tmp 2], .false, .false⟩ b.length) [.code b_i_number] (start a b) := Call_run (af := a_i_number) rfl a b
theorem ow_i_number : ow 218 = [] := rfl
theorem run_s_l05New (a : List V) (b : List Blk) : Call tab ow 228 a b = Rn tab ow (endK ⟨10, b_s_l05New, [.cell 4 (.some 4)], .false, .false⟩ b.length) [.code b_s_l05New] (start a b) := Call_run (af := a_s_l05New) rfl a b
theorem ow_s_l05New : ow 228 = [] := rfl
theorem run_s_l00Src_pick (a : List V) (b : List Blk) : Call tab ow 229 a b = Rn tab ow (endK ⟨15, b_s_l00Src_pick, [.tmp 4], .false, .false⟩ b.length) [.code b_s_l00Src_pick] (start a b) := Call_run (af := a_s_l00Src_pick) rfl a b
theorem ow_s_l00Src_pick : ow 229 = [] := rfl
theorem run_s_l05Absorb (a : List V) (b : List Blk) : Call tab ow 230 a b = Rn tab ow (endK ⟨19, b_s_l05Absorb, [.cell 4 (.some 4)], .false, .false⟩ b.length) [.code b_s_l05Absorb] (start a b) := Call_run (af := a_s_l05Absorb) rfl a b
theorem ow_s_l05Absorb : ow 230 = [] := rfl
theorem run_s_l05Draw (a : List V) (b : List Blk) : Call tab ow 231 a b = Rn tab ow (endK ⟨47, b_s_l05Draw, [.cell 2 (.some 4), .cell 3 (.some 2)], .false, .false⟩ b.length) [.code b_s_l05Draw] (start a b) := Call_run (af := a_s_l05Draw) rfl a b
theorem ow_s_l05Draw : ow 231 = [] := rfl
theorem run_s_l05Own (a : List V) (b : List Blk) : Call tab ow 232 a b = Rn tab ow (endK ⟨9, b_s_l05Own, [.cell 2 (.some 4)], .false, .false⟩ b.length) [.code b_s_l05Own] (start a b) := Call_run (af := a_s_l05Own) rfl a b
theorem ow_s_l05Own : ow 232 = [] := rfl
theorem run_s_l05Fits (a : List V) (b : List Blk) : Call tab ow 233 a b = Rn tab ow (endK ⟨31, b_s_l05Fits, [.tmp 6], .false, .false⟩ b.length) [.code b_s_l05Fits] (start a b) := Call_run (af := a_s_l05Fits) rfl a b
theorem ow_s_l05Fits : ow 233 = [] := rfl
theorem run_slices_IndexFunc_Li_Ext_i_Ext (a : List V) (b : List Blk) : Call tab ow 234 a b = Rn tab ow (endK ⟨19, b_slices_IndexFunc_Li_Ext_i_Ext, [.tmp 4], .false, .false⟩ b.length) [.code b_slices_IndexFunc_Li_Ext_i_Ext] (start a b) := Call_run (af := a_slices_IndexFunc_Li_Ext_i_Ext) rfl a b
theorem ow_slices_IndexFunc_Li_Ext_i_Ext : ow 234 = [] := rfl
theorem run_s_FieldOK (a : List V) (b : List Blk) : Call tab ow 238 a b = Rn tab ow (endK ⟨5, b_s_FieldOK, [.tmp 2], .false, .false⟩ b.length) [.code b_s_FieldOK] (start a b) := Call_run (af := a_s_FieldOK) rfl a b
theorem ow_s_FieldOK : ow 238 = [] := rfl
theorem run_s_l03Hash (a : List V) (b : List Blk) : Call tab ow 247 a b = Rn tab ow (endK ⟨57, b_s_l03Hash, [.tmp 2], .false, .false⟩ b.length) [.code b_s_l03Hash] (start a b) := Call_run (af := a_s_l03Hash) rfl a b
theorem ow_s_l03Hash : ow 247 = [] := rfl
theorem run_i_lanesOf (a : List V) (b : List Blk) : Call tab ow 248 a b = Rn tab ow (endK ⟨28, b_i_lanesOf, [.cell 2 (.some 25)], .false, .false⟩ b.length) [.code b_i_lanesOf] (start a b) := Call_run (af := a_i_lanesOf) rfl a b
theorem ow_i_lanesOf : ow 248 = [] := rfl
theorem run_i_lanes_permute (a : List V) (b : List Blk) : Call tab ow 249 a b = Rn tab ow (endK ⟨124, b_i_lanes_permute, [], .false, .false⟩ b.length) [.code b_i_lanes_permute] (start a b) := Call_run (af := a_i_lanes_permute) rfl a b
theorem ow_i_lanes_permute : ow 249 = [] := rfl
theorem run_i_lanes_text (a : List V) (b : List Blk) : Call tab ow 250 a b = Rn tab ow (endK ⟨25, b_i_lanes_text, [.tmp 2], .false, .false⟩ b.length) [.code b_i_lanes_text] (start a b) := Call_run (af := a_i_lanes_text) rfl a b
theorem ow_i_lanes_text : ow 250 = [] := rfl
theorem run_s_l00Src_byte (a : List V) (b : List Blk) : Call tab ow 264 a b = Rn tab ow (endK ⟨76, b_s_l00Src_byte, [.tmp 2], .false, .false⟩ b.length) [.code b_s_l00Src_byte] (start a b) := Call_run (af := a_s_l00Src_byte) rfl a b
theorem ow_s_l00Src_byte : ow 264 = [] := rfl
theorem run_s_l05Field (a : List V) (b : List Blk) : Call tab ow 270 a b = Rn tab ow (endK ⟨18, b_s_l05Field, [.tmp 2], .false, .false⟩ b.length) [.code b_s_l05Field] (start a b) := Call_run (af := a_s_l05Field) rfl a b
theorem ow_s_l05Field : ow 270 = [] := rfl
theorem run_s_l03Lanes (a : List V) (b : List Blk) : Call tab ow 274 a b = Rn tab ow (endK ⟨28, b_s_l03Lanes, [.cell 2 (.some 25)], .false, .false⟩ b.length) [.code b_s_l03Lanes] (start a b) := Call_run (af := a_s_l03Lanes) rfl a b
theorem ow_s_l03Lanes : ow 274 = [] := rfl
theorem run_s_l03Permute (a : List V) (b : List Blk) : Call tab ow 275 a b = Rn tab ow (endK ⟨149, b_s_l03Permute, [.cell 2 (.some 25)], .false, .false⟩ b.length) [.code b_s_l03Permute] (start a b) := Call_run (af := a_s_l03Permute) rfl a b
theorem ow_s_l03Permute : ow 275 = [] := rfl
theorem run_s_l03Text (a : List V) (b : List Blk) : Call tab ow 276 a b = Rn tab ow (endK ⟨28, b_s_l03Text, [.tmp 4], .false, .false⟩ b.length) [.code b_s_l03Text] (start a b) := Call_run (af := a_s_l03Text) rfl a b
theorem ow_s_l03Text : ow 276 = [] := rfl
theorem run_math_bits_RotateLeft64 (a : List V) (b : List Blk) : Call tab ow 277 a b = Rn tab ow (endK ⟨17, b_math_bits_RotateLeft64, [.tmp 4], .false, .false⟩ b.length) [.code b_math_bits_RotateLeft64] (start a b) := Call_run (af := a_math_bits_RotateLeft64) rfl a b
theorem ow_math_bits_RotateLeft64 : ow 277 = [] := rfl
theorem run_s_l03Rounds (a : List V) (b : List Blk) : Call tab ow 290 a b = Rn tab ow (endK ⟨2, b_s_l03Rounds, [.cell 0 (.some 24)], .false, .false⟩ b.length) [.code b_s_l03Rounds] (start a b) := Call_run (af := a_s_l03Rounds) rfl a b
theorem ow_s_l03Rounds : ow 290 = [] := rfl
theorem run_s_l03Shifts (a : List V) (b : List Blk) : Call tab ow 291 a b = Rn tab ow (endK ⟨2, b_s_l03Shifts, [.cell 0 (.some 25)], .false, .false⟩ b.length) [.code b_s_l03Shifts] (start a b) := Call_run (af := a_s_l03Shifts) rfl a b
theorem ow_s_l03Shifts : ow 291 = [] := rfl
theorem run_s_l03Turn (a : List V) (b : List Blk) : Call tab ow 292 a b = Rn tab ow (endK ⟨16, b_s_l03Turn, [.tmp 4], .false, .false⟩ b.length) [.code b_s_l03Turn] (start a b) := Call_run (af := a_s_l03Turn) rfl a b
theorem ow_s_l03Turn : ow 292 = [] := rfl
attribute [go_sem] ow_w_FnGrind ow_w_at ow_s_SourceOf ow_i_GrindNonce ow_s_GrindNonce ow_i_CheckNonce ow_s_l00Source ow_s_l00Src_exts ow_i_FieldOK ow_i_are_i_Ext
attribute [go_sem] ow_i_ExtOK ow_s_l00Src_ext ow_i_in ow_s_l02List ow_s_l00Src_source ow_i_SourceOK ow_i_Source_grind ow_s_SourceOK ow_s_l01In ow_s_l05Grind
attribute [go_sem] ow_i_Source_does ow_slices_ContainsFunc_Li_Ext_i_Ext ow_i_keccak ow_i_isHash ow_s_l00Src_next ow_s_l00Src_field ow_i_are_i_Ext_1 ow_s_l00Src_chance ow_i_four ow_s_ExtOK
attribute [go_sem] ow_s_l02Number ow_i_number ow_s_l05New ow_s_l00Src_pick ow_s_l05Absorb ow_s_l05Draw ow_s_l05Own ow_s_l05Fits ow_slices_IndexFunc_Li_Ext_i_Ext ow_s_FieldOK
attribute [go_sem] ow_s_l03Hash ow_i_lanesOf ow_i_lanes_permute ow_i_lanes_text ow_s_l00Src_byte ow_s_l05Field ow_s_l03Lanes ow_s_l03Permute ow_s_l03Text ow_math_bits_RotateLeft64
attribute [go_sem] ow_s_l03Rounds ow_s_l03Shifts ow_s_l03Turn
end Go.AI.Fn
