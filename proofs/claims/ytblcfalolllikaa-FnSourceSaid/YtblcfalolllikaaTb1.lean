/- The table. -/
import Derived.Test.YtblcfalolllikaaTb0
import Derived.Test.YtblcfalolllikaaAiW
set_option linter.unusedVariables false
set_option maxRecDepth 100000
namespace Go.AI.Fn
noncomputable def tabL : List (Nat × FDef) := [(4, .code a_w_FnSource), (17, .code a_s_SourceOf), (18, .code a_s_BytesOf), (19, .code a_i_AbsorbText), (20, .code a_s_AbsorbText), (21, .code a_w_at), (22, .code a_i_TakeSome), (23, .code a_s_TakeSome), (24, .code a_w_sameSource), (25, .code a_w_sameExts), (26, .code a_i_SourceOK), (27, .code a_i_TakeOne), (28, .code a_i_AbsorbExts), (29, .code a_s_AbsorbExts), (30, .code a_i_TakePlaces), (31, .code a_s_TakePlaces), (32, .code a_w_sameInts), (60, .code a_s_l01In), (77, .code a_s_l00Source), (78, .code a_s_l00Src_source), (79, .code a_s_l00Src_bytes), (80, .code a_i_isLong), (81, .code a_i_Source_copied), (82, .code a_i_Source_absorb), (83, .code a_s_SourceOK), (84, .code a_s_l05Own), (85, .code a_s_l05Absorb), (86, .code a_i_in), (87, .code a_i_Source_left), (88, .code a_i_Source_draws), (89, .code a_s_l05Spent), (90, .code a_s_l05Some), (91, .code a_i_are_i_Ext), (92, .code a_i_ExtOK), (93, .code a_i_isHash), (94, .code a_i_Source_absorbExts), (95, .code a_s_l02List), (96, .code a_s_l05Exts), (97, .code a_i_places), (98, .code a_s_l05Places), (134, .code a_s_ExtOK), (148, .code a_s_l05New), (149, .code a_s_l00Src_pick), (150, .code a_s_l00Src_chance), (151, .code a_s_l00Src_exts), (152, .code a_s_l00Src_next), (153, .code a_s_l05Draw), (154, .ext (cloneO 154 a_slices_Clone_Li_Ext_i_Ext 2)), (155, .code a_i_keccak), (156, .code a_i_four), (157, .code a_s_l03Hash), (158, .code a_s_l02Number), (159, .code a_i_Source_draw), (160, .code a_slices_ContainsFunc_Li_Ext_i_Ext), (161, .code a_i_are_i_Ext_1), (162, .code a_i_FieldOK), (163, .code a_i_extBytes), (164, .code a_s_l02Bytes), (192, .code a_s_FieldOK), (199, .code a_s_l00Src_ext), (200, .code a_s_l00Src_byte), (201, .code a_s_l05Field), (202, .code a_i_lanesOf), (203, .code a_i_lanes_permute), (204, .code a_i_lanes_text), (205, .code a_s_l03Lanes), (206, .code a_s_l03Permute), (207, .code a_s_l03Text), (208, .code a_i_modulo), (209, .code a_slices_IndexFunc_Li_Ext_i_Ext), (225, .code a_s_l00Src_field), (226, .code a_math_bits_RotateLeft64), (227, .code a_s_l03Rounds), (228, .code a_s_l03Shifts), (229, .code a_s_l03Turn)]
noncomputable def tab : Tab := fun f => aget tabL f
def owL : List (Nat × List Nat) := [(156, [0, 1000])]
def ow : Owns := fun f => (aget owL f).getD []
theorem run_w_FnSource (a : List V) (b : List Blk) : Call tab ow 4 a b = Rn tab ow (endK ⟨205, b_w_FnSource, [.tmp 4], .false, .false⟩ b.length) [.code b_w_FnSource] (start a b) := Call_run (af := a_w_FnSource) rfl a b
theorem ow_w_FnSource : ow 4 = [] := rfl
theorem run_s_SourceOf (a : List V) (b : List Blk) : Call tab ow 17 a b = Rn tab ow (endK ⟨6, b_s_SourceOf, [.cell 2 (.some 4)], .false, .false⟩ b.length) [.code b_s_SourceOf] (start a b) := Call_run (af := a_s_SourceOf) rfl a b
theorem ow_s_SourceOf : ow 17 = [] := rfl
theorem run_s_BytesOf (a : List V) (b : List Blk) : Call tab ow 18 a b = Rn tab ow (endK ⟨9, b_s_BytesOf, [.tmp 4], .false, .false⟩ b.length) [.code b_s_BytesOf] (start a b) := Call_run (af := a_s_BytesOf) rfl a b
theorem ow_s_BytesOf : ow 18 = [] := rfl
theorem run_i_AbsorbText (a : List V) (b : List Blk) : Call tab ow 19 a b = Rn tab ow (endK ⟨22, b_i_AbsorbText, [.cell 4 (.some 4), .tmp 5], .false, .false⟩ b.length) [.code b_i_AbsorbText] (start a b) := Call_run (af := a_i_AbsorbText) rfl a b
theorem ow_i_AbsorbText : ow 19 = [] := rfl
theorem run_s_AbsorbText (a : List V) (b : List Blk) : Call tab ow 20 a b = Rn tab ow (endK ⟨18, b_s_AbsorbText, [.cell 4 (.some 4), .tmp 5], .false, .false⟩ b.length) [.code b_s_AbsorbText] (start a b) := Call_run (af := a_s_AbsorbText) rfl a b
theorem ow_s_AbsorbText : ow 20 = [] := rfl
theorem run_w_at (a : List V) (b : List Blk) : Call tab ow 21 a b = Rn tab ow (endK ⟨42, b_w_at, [.tmp 6], .false, .false⟩ b.length) [.code b_w_at] (start a b) := Call_run (af := a_w_at) rfl a b
theorem ow_w_at : ow 21 = [] := rfl
theorem run_i_TakeSome (a : List V) (b : List Blk) : Call tab ow 22 a b = Rn tab ow (endK ⟨32, b_i_TakeSome, [.cell 4 (.some 4), .tmp 5, .tmp 6], .false, .false⟩ b.length) [.code b_i_TakeSome] (start a b) := Call_run (af := a_i_TakeSome) rfl a b
theorem ow_i_TakeSome : ow 22 = [] := rfl
theorem run_s_TakeSome (a : List V) (b : List Blk) : Call tab ow 23 a b = Rn tab ow (endK ⟨34, b_s_TakeSome, [.cell 4 (.some 4), .tmp 5, .tmp 6], .false, .false⟩ b.length) [.code b_s_TakeSome] (start a b) := Call_run (af := a_s_TakeSome) rfl a b
theorem ow_s_TakeSome : ow 23 = [] := rfl
theorem run_w_sameSource (a : List V) (b : List Blk) : Call tab ow 24 a b = Rn tab ow (endK ⟨31, b_w_sameSource, [.tmp 4], .false, .false⟩ b.length) [.code b_w_sameSource] (start a b) := Call_run (af := a_w_sameSource) rfl a b
theorem ow_w_sameSource : ow 24 = [] := rfl
theorem run_w_sameExts (a : List V) (b : List Blk) : Call tab ow 25 a b = Rn tab ow (endK ⟨26, b_w_sameExts, [.tmp 4], .false, .false⟩ b.length) [.code b_w_sameExts] (start a b) := Call_run (af := a_w_sameExts) rfl a b
theorem ow_w_sameExts : ow 25 = [] := rfl
theorem run_i_SourceOK (a : List V) (b : List Blk) : Call tab ow 26 a b = Rn tab ow (endK ⟨27, b_i_SourceOK, [.tmp 2], .false, .false⟩ b.length) [.code b_i_SourceOK] (start a b) := Call_run (af := a_i_SourceOK) rfl a b
theorem ow_i_SourceOK : ow 26 = [] := rfl
theorem run_i_TakeOne (a : List V) (b : List Blk) : Call tab ow 27 a b = Rn tab ow (endK ⟨23, b_i_TakeOne, [.cell 2 (.some 4), .cell 3 (.some 2), .tmp 4], .false, .false⟩ b.length) [.code b_i_TakeOne] (start a b) := Call_run (af := a_i_TakeOne) rfl a b
theorem ow_i_TakeOne : ow 27 = [] := rfl
theorem run_i_AbsorbExts (a : List V) (b : List Blk) : Call tab ow 28 a b = Rn tab ow (endK ⟨27, b_i_AbsorbExts, [.cell 4 (.some 4), .tmp 5], .false, .false⟩ b.length) [.code b_i_AbsorbExts] (start a b) := Call_run (af := a_i_AbsorbExts) rfl a b
theorem ow_i_AbsorbExts : ow 28 = [] := rfl
theorem run_s_AbsorbExts (a : List V) (b : List Blk) : Call tab ow 29 a b = Rn tab ow (endK ⟨23, b_s_AbsorbExts, [.cell 4 (.some 4), .tmp 5], .false, .false⟩ b.length) [.code b_s_AbsorbExts] (start a b) := Call_run (af := a_s_AbsorbExts) rfl a b
theorem ow_s_AbsorbExts : ow 29 = [] := rfl
theorem run_i_TakePlaces (a : List V) (b : List Blk) : Call tab ow 30 a b = Rn tab ow (endK ⟨42, b_i_TakePlaces, [.cell 6 (.some 4), .tmp 7, .tmp 8], .false, .false⟩ b.length) [.code b_i_TakePlaces] (start a b) := Call_run (af := a_i_TakePlaces) rfl a b
theorem ow_i_TakePlaces : ow 30 = [] := rfl
theorem run_s_TakePlaces (a : List V) (b : List Blk) : Call tab ow 31 a b = Rn tab ow (endK ⟨42, b_s_TakePlaces, [.cell 6 (.some 4), .tmp 7, .tmp 8], .false, .false⟩ b.length) [.code b_s_TakePlaces] (start a b) := Call_run (af := a_s_TakePlaces) rfl a b
theorem ow_s_TakePlaces : ow 31 = [] := rfl
theorem run_w_sameInts (a : List V) (b : List Blk) : Call tab ow 32 a b = Rn tab ow (endK ⟨26, b_w_sameInts, [.tmp 4], .false, .false⟩ b.length) [.code b_w_sameInts] (start a b) := Call_run (af := a_w_sameInts) rfl a b
theorem ow_w_sameInts : ow 32 = [] := rfl
theorem run_s_l01In (a : List V) (b : List Blk) : Call tab ow 60 a b = Rn tab ow (endK ⟨15, b_s_l01In, [.tmp 6], .false, .false⟩ b.length) [.code b_s_l01In] (start a b) := Call_run (af := a_s_l01In) rfl a b
theorem ow_s_l01In : ow 60 = [] := rfl
theorem run_s_l00Source (a : List V) (b : List Blk) : Call tab ow 77 a b = Rn tab ow (endK ⟨9, b_s_l00Source, [.tmp 2], .true, .false⟩ b.length) [.code b_s_l00Source] (start a b) := Call_run (af := a_s_l00Source) rfl a b
theorem ow_s_l00Source : ow 77 = [] := rfl
theorem run_s_l00Src_source (a : List V) (b : List Blk) : Call tab ow 78 a b = Rn tab ow (endK ⟨38, b_s_l00Src_source, [.cell 2 (.some 4)], .false, .false⟩ b.length) [.code b_s_l00Src_source] (start a b) := Call_run (af := a_s_l00Src_source) rfl a b
theorem ow_s_l00Src_source : ow 78 = [] := rfl
theorem run_s_l00Src_bytes (a : List V) (b : List Blk) : Call tab ow 79 a b = Rn tab ow (endK ⟨23, b_s_l00Src_bytes, [.tmp 4], .false, .false⟩ b.length) [.code b_s_l00Src_bytes] (start a b) := Call_run (af := a_s_l00Src_bytes) rfl a b
theorem ow_s_l00Src_bytes : ow 79 = [] := rfl
theorem run_i_isLong (a : List V) (b : List Blk) : Call tab ow 80 a b = Rn tab ow (endK ⟨6, b_i_isLong, [.tmp 2], .false, .false⟩ b.length) [.code b_i_isLong] (start a b) := Call_run (af := a_i_isLong) rfl a b
theorem ow_i_isLong : ow 80 = [] := rfl
theorem run_i_Source_copied (a : List V) (b : List Blk) : Call tab ow 81 a b = Rn tab ow (endK ⟨8, b_i_Source_copied, [.cell 2 (.some 4)], .false, .false⟩ b.length) [.code b_i_Source_copied] (start a b) := Call_run (af := a_i_Source_copied) rfl a b
theorem ow_i_Source_copied : ow 81 = [] := rfl
theorem run_i_Source_absorb (a : List V) (b : List Blk) : Call tab ow 82 a b = Rn tab ow (endK ⟨23, b_i_Source_absorb, [], .false, .false⟩ b.length) [.code b_i_Source_absorb] (start a b) := Call_run (af := a_i_Source_absorb) rfl a b
theorem ow_i_Source_absorb : ow 82 = [] := rfl
theorem run_s_SourceOK (a : List V) (b : List Blk) : Call tab ow 83 a b = Rn tab ow (endK ⟨28, b_s_SourceOK, [.tmp 2], .false, .false⟩ b.length) [.code b_s_SourceOK] (start a b) := Call_run (af := a_s_SourceOK) rfl a b
theorem ow_s_SourceOK : ow 83 = [] := rfl
theorem run_s_l05Own (a : List V) (b : List Blk) : Call tab ow 84 a b = Rn tab ow (endK ⟨9, b_s_l05Own, [.cell 2 (.some 4)], .false, .false⟩ b.length) [.code b_s_l05Own] (start a b) := Call_run (af := a_s_l05Own) rfl a b
theorem ow_s_l05Own : ow 84 = [] := rfl
theorem run_s_l05Absorb (a : List V) (b : List Blk) : Call tab ow 85 a b = Rn tab ow (endK ⟨19, b_s_l05Absorb, [.cell 4 (.some 4)], .false, .false⟩ b.length) [.code b_s_l05Absorb] (start a b) := Call_run (af := a_s_l05Absorb) rfl a b
theorem ow_s_l05Absorb : ow 85 = [] := rfl
theorem run_i_in (a : List V) (b : List Blk) : Call tab ow 86 a b = Rn tab ow (endK ⟨15, b_i_in, [.tmp 6], .false, .false⟩ b.length) [.code b_i_in] (start a b) := Call_run (af := a_i_in) rfl a b
theorem ow_i_in : ow 86 = [] := rfl
theorem run_i_Source_left (a : List V) (b : List Blk) : Call tab ow 87 a b = Rn tab ow (endK ⟨9, b_i_Source_left, [.tmp 2], .false, .false⟩ b.length) [.code b_i_Source_left] (start a b) := Call_run (af := a_i_Source_left) rfl a b
theorem ow_i_Source_left : ow 87 = [] := rfl
theorem run_i_Source_draws (a : List V) (b : List Blk) : Call tab ow 88 a b = Rn tab ow (endK ⟨17, b_i_Source_draws, [.tmp 4], .false, .false⟩ b.length) [.code b_i_Source_draws] (start a b) := Call_run (af := a_i_Source_draws) rfl a b
theorem ow_i_Source_draws : ow 88 = [] := rfl
theorem run_s_l05Spent (a : List V) (b : List Blk) : Call tab ow 89 a b = Rn tab ow (endK ⟨17, b_s_l05Spent, [.tmp 4], .false, .false⟩ b.length) [.code b_s_l05Spent] (start a b) := Call_run (af := a_s_l05Spent) rfl a b
theorem ow_s_l05Spent : ow 89 = [] := rfl
theorem run_s_l05Some (a : List V) (b : List Blk) : Call tab ow 90 a b = Rn tab ow (endK ⟨28, b_s_l05Some, [.cell 4 (.some 4), .tmp 5], .false, .false⟩ b.length) [.code b_s_l05Some] (start a b) := Call_run (af := a_s_l05Some) rfl a b
theorem ow_s_l05Some : ow 90 = [] := rfl
theorem run_i_are_i_Ext (a : List V) (b : List Blk) : Call tab ow 91 a b = Rn tab ow (endK ⟨9, b_i_are_i_Ext, [.tmp 4], .false, .false⟩ b.length) [.code b_i_are_i_Ext] (start a b) := Call_run (af := a_i_are_i_Ext) rfl a b
theorem ow_i_are_i_Ext : ow 91 = [] := rfl
theorem run_i_ExtOK (a : List V) (b : List Blk) : Call tab ow 92 a b = Rn tab ow (endK ⟨11, b_i_ExtOK, [.tmp 2], .false, .false⟩ b.length) [.code b_i_ExtOK] (start a b) := Call_run (af := a_i_ExtOK) rfl a b
theorem ow_i_ExtOK : ow 92 = [] := rfl
theorem run_i_isHash (a : List V) (b : List Blk) : Call tab ow 93 a b = Rn tab ow (endK ⟨6, b_i_isHash, [.tmp 2], .false, .false⟩ b.length) [.code b_i_isHash] (start a b) := Call_run (af := a_i_isHash) rfl a b
theorem ow_i_isHash : ow 93 = [] := rfl
theorem run_i_Source_absorbExts (a : List V) (b : List Blk) : Call tab ow 94 a b = Rn tab ow (endK ⟨8, b_i_Source_absorbExts, [], .false, .false⟩ b.length) [.code b_i_Source_absorbExts] (start a b) := Call_run (af := a_i_Source_absorbExts) rfl a b
theorem ow_i_Source_absorbExts : ow 94 = [] := rfl
theorem run_s_l02List (a : List V) (b : List Blk) : Call tab ow 95 a b = Rn tab ow (endK ⟨16, b_s_l02List, [.tmp 2], .false, .false⟩ b.length) [.code b_s_l02List] (start a b) := Call_run (af := a_s_l02List) rfl a b
theorem ow_s_l02List : ow 95 = [] := rfl
theorem run_s_l05Exts (a : List V) (b : List Blk) : Call tab ow 96 a b = Rn tab ow (endK ⟨10, b_s_l05Exts, [.cell 4 (.some 4)], .false, .false⟩ b.length) [.code b_s_l05Exts] (start a b) := Call_run (af := a_s_l05Exts) rfl a b
theorem ow_s_l05Exts : ow 96 = [] := rfl
theorem run_i_places (a : List V) (b : List Blk) : Call tab ow 97 a b = Rn tab ow (endK ⟨24, b_i_places, [.tmp 4], .false, .false⟩ b.length) [.code b_i_places] (start a b) := Call_run (af := a_i_places) rfl a b
theorem ow_i_places : ow 97 = [] := rfl
theorem run_s_l05Places (a : List V) (b : List Blk) : Call tab ow 98 a b = Rn tab ow (endK ⟨36, b_s_l05Places, [.cell 6 (.some 4), .tmp 7], .false, .false⟩ b.length) [.code b_s_l05Places] (start a b) := Call_run (af := a_s_l05Places) rfl a b
theorem ow_s_l05Places : ow 98 = [] := rfl
theorem run_s_ExtOK (a : List V) (b : List Blk) : Call tab ow 134 a b = Rn tab ow (endK ⟨11, b_s_ExtOK, [.tmp 2], .false, .false⟩ b.length) [.code b_s_ExtOK] (start a b) := Call_run (af := a_s_ExtOK) rfl a b
theorem ow_s_ExtOK : ow 134 = [] := rfl
theorem run_s_l05New (a : List V) (b : List Blk) : Call tab ow 148 a b = Rn tab ow (endK ⟨10, b_s_l05New, [.cell 4 (.some 4)], .false, .false⟩ b.length) [.code b_s_l05New] (start a b) := Call_run (af := a_s_l05New) rfl a b
theorem ow_s_l05New : ow 148 = [] := rfl
theorem run_s_l00Src_pick (a : List V) (b : List Blk) : Call tab ow 149 a b = Rn tab ow (endK ⟨15, b_s_l00Src_pick, [.tmp 4], .false, .false⟩ b.length) [.code b_s_l00Src_pick] (start a b) := Call_run (af := a_s_l00Src_pick) rfl a b
theorem ow_s_l00Src_pick : ow 149 = [] := rfl
theorem run_s_l00Src_chance (a : List V) (b : List Blk) : Call tab ow 150 a b = Rn tab ow (endK ⟨11, b_s_l00Src_chance, [.tmp 4], .false, .false⟩ b.length) [.code b_s_l00Src_chance] (start a b) := Call_run (af := a_s_l00Src_chance) rfl a b
theorem ow_s_l00Src_chance : ow 150 = [] := rfl
theorem run_s_l00Src_exts (a : List V) (b : List Blk) : Call tab ow 151 a b = Rn tab ow (endK ⟨19, b_s_l00Src_exts, [.tmp 4], .false, .false⟩ b.length) [.code b_s_l00Src_exts] (start a b) := Call_run (af := a_s_l00Src_exts) rfl a b
theorem ow_s_l00Src_exts : ow 151 = [] := rfl
theorem run_s_l00Src_next (a : List V) (b : List Blk) : Call tab ow 152 a b = Rn tab ow (endK ⟨31, b_s_l00Src_next, [.tmp 4], .false, .false⟩ b.length) [.code b_s_l00Src_next] (start a b) := Call_run (af := a_s_l00Src_next) rfl a b
theorem ow_s_l00Src_next : ow 152 = [] := rfl
theorem run_s_l05Draw (a : List V) (b : List Blk) : Call tab ow 153 a b = Rn tab ow (endK ⟨47, b_s_l05Draw, [.cell 2 (.some 4), .cell 3 (.some 2)], .false, .false⟩ b.length) [.code b_s_l05Draw] (start a b) := Call_run (af := a_s_l05Draw) rfl a b
theorem ow_s_l05Draw : ow 153 = [] := rfl
theorem ow_slices_Clone_Li_Ext_i_Ext : ow 154 = [] := rfl
theorem run_i_keccak (a : List V) (b : List Blk) : Call tab ow 155 a b = Rn tab ow (endK ⟨62, b_i_keccak, [.tmp 2], .false, .false⟩ b.length) [.code b_i_keccak] (start a b) := Call_run (af := a_i_keccak) rfl a b
theorem ow_i_keccak : ow 155 = [] := rfl
theorem run_i_four (a : List V) (b : List Blk) : Call tab ow 156 a b = Rn tab ow (endK ⟨19, b_i_four, [.tmp 4], .false, .false⟩ b.length) [.code b_i_four] (start a b) := Call_run (af := a_i_four) rfl a b
theorem ow_i_four : ow 156 = [0, 1000] := rfl
theorem run_s_l03Hash (a : List V) (b : List Blk) : Call tab ow 157 a b = Rn tab ow (endK ⟨57, b_s_l03Hash, [.tmp 2], .false, .false⟩ b.length) [.code b_s_l03Hash] (start a b) := Call_run (af := a_s_l03Hash) rfl a b
theorem ow_s_l03Hash : ow 157 = [] := rfl
theorem run_s_l02Number (a : List V) (b : List Blk) : Call tab ow 158 a b = Rn tab ow (endK ⟨24, b_s_l02Number, [.tmp 4], .false, .false⟩ b.length) [.code b_s_l02Number] (start a b) := Call_run (af := a_s_l02Number) rfl a b
theorem ow_s_l02Number : ow 158 = [] := rfl
theorem run_i_Source_draw (a : List V) (b : List Blk) : Call tab ow 159 a b = Rn tab ow (endK ⟨63, b_i_Source_draw, [.cell 2 (.some 2)], .false, .false⟩ b.length) [.code b_i_Source_draw] (start a b) := Call_run (af := a_i_Source_draw) rfl a b
theorem ow_i_Source_draw : ow 159 = [] := rfl
theorem run_slices_ContainsFunc_Li_Ext_i_Ext (a : List V) (b : List Blk) : Call tab ow 160 a b = Rn tab ow (endK ⟨9, b_slices_ContainsFunc_Li_Ext_i_Ext, [.tmp 4], .false, .false⟩ b.length) [.code b_slices_ContainsFunc_Li_Ext_i_Ext] (start a b) := Call_run (af := a_slices_ContainsFunc_Li_Ext_i_Ext) rfl a b
theorem ow_slices_ContainsFunc_Li_Ext_i_Ext : ow 160 = [] := rfl
theorem run_i_are_i_Ext_1 (a : List V) (b : List Blk) : Call tab ow 161 a b = Rn tab ow (endK ⟨8, b_i_are_i_Ext_1, [.tmp 3], .false, .false⟩ b.length) [.code b_i_are_i_Ext_1] (start a b) := Call_run (af := a_i_are_i_Ext_1) rfl a b
theorem ow_i_are_i_Ext_1 : ow 161 = [] := rfl
theorem run_i_FieldOK (a : List V) (b : List Blk) : Call tab ow 162 a b = Rn tab ow (endK ⟨5, b_i_FieldOK, [.tmp 2], .false, .false⟩ b.length) [.code b_i_FieldOK] (start a b) := Call_run (af := a_i_FieldOK) rfl a b
theorem ow_i_FieldOK : ow 162 = [] := rfl
theorem run_i_extBytes (a : List V) (b : List Blk) : Call tab ow 163 a b = Rn tab ow (endK ⟨22, b_i_extBytes, [.tmp 2], .false, .false⟩ b.length) [.code b_i_extBytes] (start a b) := Call_run (af := a_i_extBytes) rfl a b
theorem ow_i_extBytes : ow 163 = [] := rfl
theorem run_s_l02Bytes (a : List V) (b : List Blk) : Call tab ow 164 a b = Rn tab ow (endK ⟨28, b_s_l02Bytes, [.tmp 2], .false, .false⟩ b.length) [.code b_s_l02Bytes] (start a b) := Call_run (af := a_s_l02Bytes) rfl a b
theorem ow_s_l02Bytes : ow 164 = [] := rfl
theorem run_s_FieldOK (a : List V) (b : List Blk) : Call tab ow 192 a b = Rn tab ow (endK ⟨5, b_s_FieldOK, [.tmp 2], .false, .false⟩ b.length) [.code b_s_FieldOK] (start a b) := Call_run (af := a_s_FieldOK) rfl a b
theorem ow_s_FieldOK : ow 192 = [] := rfl
theorem run_s_l00Src_ext (a : List V) (b : List Blk) : Call tab ow 199 a b = Rn tab ow (endK ⟨13, b_s_l00Src_ext, [.cell 2 (.some 2)], .false, .false⟩ b.length) [.code b_s_l00Src_ext] (start a b) := Call_run (af := a_s_l00Src_ext) rfl a b
theorem ow_s_l00Src_ext : ow 199 = [] := rfl
theorem run_s_l00Src_byte (a : List V) (b : List Blk) : Call tab ow 200 a b = Rn tab ow (endK ⟨76, b_s_l00Src_byte, [.tmp 2], .false, .false⟩ b.length) [.code b_s_l00Src_byte] (start a b) := Call_run (af := a_s_l00Src_byte) rfl a b
theorem ow_s_l00Src_byte : ow 200 = [] := rfl
theorem run_s_l05Field (a : List V) (b : List Blk) : Call tab ow 201 a b = Rn tab ow (endK ⟨18, b_s_l05Field, [.tmp 2], .false, .false⟩ b.length) [.code b_s_l05Field] (start a b) := Call_run (af := a_s_l05Field) rfl a b
theorem ow_s_l05Field : ow 201 = [] := rfl
theorem run_i_lanesOf (a : List V) (b : List Blk) : Call tab ow 202 a b = Rn tab ow (endK ⟨28, b_i_lanesOf, [.cell 2 (.some 25)], .false, .false⟩ b.length) [.code b_i_lanesOf] (start a b) := Call_run (af := a_i_lanesOf) rfl a b
theorem ow_i_lanesOf : ow 202 = [] := rfl
theorem run_i_lanes_permute (a : List V) (b : List Blk) : Call tab ow 203 a b = Rn tab ow (endK ⟨124, b_i_lanes_permute, [], .false, .false⟩ b.length) [.code b_i_lanes_permute] (start a b) := Call_run (af := a_i_lanes_permute) rfl a b
theorem ow_i_lanes_permute : ow 203 = [] := rfl
theorem run_i_lanes_text (a : List V) (b : List Blk) : Call tab ow 204 a b = Rn tab ow (endK ⟨25, b_i_lanes_text, [.tmp 2], .false, .false⟩ b.length) [.code b_i_lanes_text] (start a b) := Call_run (af := a_i_lanes_text) rfl a b
theorem ow_i_lanes_text : ow 204 = [] := rfl
theorem run_s_l03Lanes (a : List V) (b : List Blk) : Call tab ow 205 a b = Rn tab ow (endK ⟨28, b_s_l03Lanes, [.cell 2 (.some 25)], .false, .false⟩ b.length) [.code b_s_l03Lanes] (start a b) := Call_run (af := a_s_l03Lanes) rfl a b
theorem ow_s_l03Lanes : ow 205 = [] := rfl
theorem run_s_l03Permute (a : List V) (b : List Blk) : Call tab ow 206 a b = Rn tab ow (endK ⟨149, b_s_l03Permute, [.cell 2 (.some 25)], .false, .false⟩ b.length) [.code b_s_l03Permute] (start a b) := Call_run (af := a_s_l03Permute) rfl a b
theorem ow_s_l03Permute : ow 206 = [] := rfl
theorem run_s_l03Text (a : List V) (b : List Blk) : Call tab ow 207 a b = Rn tab ow (endK ⟨28, b_s_l03Text, [.tmp 4], .false, .false⟩ b.length) [.code b_s_l03Text] (start a b) := Call_run (af := a_s_l03Text) rfl a b
theorem ow_s_l03Text : ow 207 = [] := rfl
theorem run_i_modulo (a : List V) (b : List Blk) : Call tab ow 208 a b = Rn tab ow (endK ⟨21, b_i_modulo, [.tmp 2], .false, .false⟩ b.length) [.code b_i_modulo] (start a b) := Call_run (af := a_i_modulo) rfl a b
theorem ow_i_modulo : ow 208 = [] := rfl
theorem run_slices_IndexFunc_Li_Ext_i_Ext (a : List V) (b : List Blk) : Call tab ow 209 a b = Rn tab ow (endK ⟨19, b_slices_IndexFunc_Li_Ext_i_Ext, [.tmp 4], .false, .false⟩ b.length) [.code b_slices_IndexFunc_Li_Ext_i_Ext] (start a b) := Call_run (af := a_slices_IndexFunc_Li_Ext_i_Ext) rfl a b
theorem ow_slices_IndexFunc_Li_Ext_i_Ext : ow 209 = [] := rfl
theorem run_s_l00Src_field (a : List V) (b : List Blk) : Call tab ow 225 a b = Rn tab ow (endK ⟨27, b_s_l00Src_field, [.tmp 2], .false, .false⟩ b.length) [.code b_s_l00Src_field] (start a b) := Call_run (af := a_s_l00Src_field) rfl a b
theorem ow_s_l00Src_field : ow 225 = [] := rfl
theorem run_math_bits_RotateLeft64 (a : List V) (b : List Blk) : Call tab ow 226 a b = Rn tab ow (endK ⟨17, b_math_bits_RotateLeft64, [.tmp 4], .false, .false⟩ b.length) [.code b_math_bits_RotateLeft64] (start a b) := Call_run (af := a_math_bits_RotateLeft64) rfl a b
theorem ow_math_bits_RotateLeft64 : ow 226 = [] := rfl
theorem run_s_l03Rounds (a : List V) (b : List Blk) : Call tab ow 227 a b = Rn tab ow (endK ⟨2, b_s_l03Rounds, [.cell 0 (.some 24)], .false, .false⟩ b.length) [.code b_s_l03Rounds] (start a b) := Call_run (af := a_s_l03Rounds) rfl a b
theorem ow_s_l03Rounds : ow 227 = [] := rfl
theorem run_s_l03Shifts (a : List V) (b : List Blk) : Call tab ow 228 a b = Rn tab ow (endK ⟨2, b_s_l03Shifts, [.cell 0 (.some 25)], .false, .false⟩ b.length) [.code b_s_l03Shifts] (start a b) := Call_run (af := a_s_l03Shifts) rfl a b
theorem ow_s_l03Shifts : ow 228 = [] := rfl
theorem run_s_l03Turn (a : List V) (b : List Blk) : Call tab ow 229 a b = Rn tab ow (endK ⟨16, b_s_l03Turn, [.tmp 4], .false, .false⟩ b.length) [.code b_s_l03Turn] (start a b) := Call_run (af := a_s_l03Turn) rfl a b
theorem ow_s_l03Turn : ow 229 = [] := rfl
theorem slices_Clone_Li_Ext_i_Ext_n (cap : Nat) : ∃ n, finish a_slices_Clone_Li_Ext_i_Ext 0 (exec (callN (oneT 154 a_slices_Clone_Li_Ext_i_Ext) noOw n) noOw n a_slices_Clone_Li_Ext_i_Ext.body (start [.lit (.slice none 0 cap)] [])) = some (.lit (.slice none 0 0), []) := ⟨9, rfl⟩
theorem slices_Clone_Li_Ext_i_Ext_e (ad : Addr) (cap : Nat) : Call (oneT 154 a_slices_Clone_Li_Ext_i_Ext) noOw 154 [.lit (.slice (some ad) 0 cap)] [] = some (.sl 0 0 0, [⟨2, false, []⟩]) := by
  have h0 : ∀ (h : Heap) (a : Addr), rowsOf h 2 (.lit (.slice (some a) 0 cap)) = some (rws (⟨2, fun _ => []⟩ : En Unit) []) := fun _ _ => rfl
  have h1 : ∀ b (a : Addr), selfB b (.lit (.slice (some a) 0 cap)) = true := fun _ _ => rfl
  have hf : fits 0 16 = true := by decide
  rw [Call_run (af := a_slices_Clone_Li_Ext_i_Ext) (oneT_self _ _)]
  simp +decide only [a_slices_Clone_Li_Ext_i_Ext, b_slices_Clone_Li_Ext_i_Ext, fun k => mk0 (⟨2, fun _ => []⟩ : En Unit) k, inS_lit, h0, h1, hf, go_sem, reduceIte, Nat.reduceAdd]
  rfl
attribute [go_sem] ow_w_FnSource ow_s_SourceOf ow_s_BytesOf ow_i_AbsorbText ow_s_AbsorbText ow_w_at ow_i_TakeSome ow_s_TakeSome ow_w_sameSource ow_w_sameExts
attribute [go_sem] ow_i_SourceOK ow_i_TakeOne ow_i_AbsorbExts ow_s_AbsorbExts ow_i_TakePlaces ow_s_TakePlaces ow_w_sameInts ow_s_l01In ow_s_l00Source ow_s_l00Src_source
attribute [go_sem] ow_s_l00Src_bytes ow_i_isLong ow_i_Source_copied ow_i_Source_absorb ow_s_SourceOK ow_s_l05Own ow_s_l05Absorb ow_i_in ow_i_Source_left ow_i_Source_draws
attribute [go_sem] ow_s_l05Spent ow_s_l05Some ow_i_are_i_Ext ow_i_ExtOK ow_i_isHash ow_i_Source_absorbExts ow_s_l02List ow_s_l05Exts ow_i_places ow_s_l05Places
attribute [go_sem] ow_s_ExtOK ow_s_l05New ow_s_l00Src_pick ow_s_l00Src_chance ow_s_l00Src_exts ow_s_l00Src_next ow_s_l05Draw ow_slices_Clone_Li_Ext_i_Ext ow_i_keccak ow_i_four
attribute [go_sem] ow_s_l03Hash ow_s_l02Number ow_i_Source_draw ow_slices_ContainsFunc_Li_Ext_i_Ext ow_i_are_i_Ext_1 ow_i_FieldOK ow_i_extBytes ow_s_l02Bytes ow_s_FieldOK ow_s_l00Src_ext
attribute [go_sem] ow_s_l00Src_byte ow_s_l05Field ow_i_lanesOf ow_i_lanes_permute ow_i_lanes_text ow_s_l03Lanes ow_s_l03Permute ow_s_l03Text ow_i_modulo ow_slices_IndexFunc_Li_Ext_i_Ext
attribute [go_sem] ow_s_l00Src_field ow_math_bits_RotateLeft64 ow_s_l03Rounds ow_s_l03Shifts ow_s_l03Turn
end Go.AI.Fn
