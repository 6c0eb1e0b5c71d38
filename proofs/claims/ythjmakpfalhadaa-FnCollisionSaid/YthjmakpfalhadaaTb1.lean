/- The table. -/
import Derived.Test.YthjmakpfalhadaaTb0
import Derived.Test.YthjmakpfalhadaaAiW
set_option linter.unusedVariables false
set_option maxRecDepth 100000
namespace Go.AI.Fn
noncomputable def tabL : List (Nat × FDef) := [(11, .code a_w_FnCollision), (21, .code a_w_at), (64, .code a_s_LeavesOf), (65, .code a_i_MerkleRoot), (66, .code a_i_MerklePath), (67, .code a_i_ExtractCollision), (68, .code a_s_BytesOf), (69, .code a_s_ExtractCollision), (70, .code a_i_Keccak256), (93, .code a_s_l00Source), (111, .code a_i_in), (117, .code a_i_isPower), (140, .code a_s_l01In), (155, .code a_s_l00Src_leaves), (156, .code a_i_leavesCode), (157, .code a_i_rootOf), (158, .code a_i_levels), (159, .code a_i_pathOf), (160, .code a_i_isLong), (161, .code a_i_placeCode), (162, .code a_i_leads), (163, .code a_i_texts), (164, .code a_s_l00Src_bytes), (165, .code a_s_l04Ask), (166, .code a_s_l04Check), (167, .code a_s_l04Up), (168, .code a_i_keccak), (179, .code a_i_hashOf), (180, .code a_i_leafText), (181, .code a_i_isHash), (182, .code a_i_nodeText), (200, .code a_s_l00Src_next), (214, .code a_i_logOf), (229, .code a_s_l00Src_pick), (242, .code a_slices_ContainsFunc_Lstring_string), (243, .code a_i_leavesCode_1), (244, .code a_i_leads_1), (245, .code a_s_l04Power), (246, .code a_s_l04Leaf), (247, .code a_s_l03Hash), (248, .code a_i_lanesOf), (249, .code a_i_lanes_permute), (250, .code a_i_lanes_text), (264, .code a_s_l00Src_byte), (267, .code a_math_bits_Len), (273, .code a_slices_IndexFunc_Lstring_string), (274, .code a_s_l03Lanes), (275, .code a_s_l03Permute), (276, .code a_s_l03Text), (277, .code a_math_bits_RotateLeft64), (289, .code a_math_bits_Len64), (290, .code a_s_l03Rounds), (291, .code a_s_l03Shifts), (292, .code a_s_l03Turn)]
noncomputable def tab : Tab := fun f => aget tabL f
def owL : List (Nat × List Nat) := []
def ow : Owns := fun f => (aget owL f).getD []
theorem run_w_FnCollision (a : List V) (b : List Blk) : Call tab ow 11 a b = Rn tab ow (endK ⟨138, b_w_FnCollision, [.tmp 4], .false, .false⟩ b.length) [.code b_w_FnCollision] (start a b) := Call_run (af := a_w_FnCollision) rfl a b
theorem ow_w_FnCollision : ow 11 = [] := rfl
theorem run_w_at (a : List V) (b : List Blk) : Call tab ow 21 a b = Rn tab ow (endK ⟨42, b_w_at, [.tmp 6], .false, .false⟩ b.length) [.code b_w_at] (start a b) := Call_run (af := a_w_at) rfl a b
theorem ow_w_at : ow 21 = [] := rfl
theorem run_s_LeavesOf (a : List V) (b : List Blk) : Call tab ow 64 a b = Rn tab ow (endK ⟨6, b_s_LeavesOf, [.tmp 2], .false, .false⟩ b.length) [.code b_s_LeavesOf] (start a b) := Call_run (af := a_s_LeavesOf) rfl a b
theorem ow_s_LeavesOf : ow 64 = [] := rfl
theorem run_i_MerkleRoot (a : List V) (b : List Blk) : Call tab ow 65 a b = Rn tab ow (endK ⟨13, b_i_MerkleRoot, [.tmp 2, .tmp 3], .false, .false⟩ b.length) [.code b_i_MerkleRoot] (start a b) := Call_run (af := a_i_MerkleRoot) rfl a b
theorem ow_i_MerkleRoot : ow 65 = [] := rfl
theorem run_i_MerklePath (a : List V) (b : List Blk) : Call tab ow 66 a b = Rn tab ow (endK ⟨22, b_i_MerklePath, [.tmp 4, .tmp 5], .false, .false⟩ b.length) [.code b_i_MerklePath] (start a b) := Call_run (af := a_i_MerklePath) rfl a b
theorem ow_i_MerklePath : ow 66 = [] := rfl
theorem run_i_ExtractCollision (a : List V) (b : List Blk) : Call tab ow 67 a b = Rn tab ow (endK ⟨99, b_i_ExtractCollision, [.cell 14 (.some 2), .tmp 15], .false, .false⟩ b.length) [.code b_i_ExtractCollision] (start a b) := Call_run (af := a_i_ExtractCollision) rfl a b
theorem ow_i_ExtractCollision : ow 67 = [] := rfl
theorem run_s_BytesOf (a : List V) (b : List Blk) : Call tab ow 68 a b = Rn tab ow (endK ⟨9, b_s_BytesOf, [.tmp 4], .false, .false⟩ b.length) [.code b_s_BytesOf] (start a b) := Call_run (af := a_s_BytesOf) rfl a b
theorem ow_s_BytesOf : ow 68 = [] := rfl
theorem run_s_ExtractCollision (a : List V) (b : List Blk) : Call tab ow 69 a b = Rn tab ow (endK ⟨124, b_s_ExtractCollision, [.cell 14 (.some 2), .tmp 15], .false, .false⟩ b.length) [.code b_s_ExtractCollision] (start a b) := Call_run (af := a_s_ExtractCollision) rfl a b
theorem ow_s_ExtractCollision : ow 69 = [] := rfl
theorem run_i_Keccak256 (a : List V) (b : List Blk) : Call tab ow 70 a b = Rn tab ow (endK ⟨9, b_i_Keccak256, [.tmp 2], .false, .false⟩ b.length) [.code b_i_Keccak256] (start a b) := Call_run (af := a_i_Keccak256) rfl a b
theorem ow_i_Keccak256 : ow 70 = [] := rfl
theorem run_s_l00Source (a : List V) (b : List Blk) : Call tab ow 93 a b = Rn tab ow (endK ⟨9, b_s_l00Source, [.tmp 2], .true, .false⟩ b.length) [.code b_s_l00Source] (start a b) := Call_run (af := a_s_l00Source) rfl a b
theorem ow_s_l00Source : ow 93 = [] := rfl
theorem run_i_in (a : List V) (b : List Blk) : Call tab ow 111 a b = Rn tab ow (endK ⟨15, b_i_in, [.tmp 6], .false, .false⟩ b.length) [.code b_i_in] (start a b) := Call_run (af := a_i_in) rfl a b
theorem ow_i_in : ow 111 = [] := rfl
theorem run_i_isPower (a : List V) (b : List Blk) : Call tab ow 117 a b = Rn tab ow (endK ⟨15, b_i_isPower, [.tmp 4], .false, .false⟩ b.length) [.code b_i_isPower] (start a b) := Call_run (af := a_i_isPower) rfl a b
theorem ow_i_isPower : ow 117 = [] := rfl
theorem run_s_l01In (a : List V) (b : List Blk) : Call tab ow 140 a b = Rn tab ow (endK ⟨15, b_s_l01In, [.tmp 6], .false, .false⟩ b.length) [.code b_s_l01In] (start a b) := Call_run (af := a_s_l01In) rfl a b
theorem ow_s_l01In : ow 140 = [] := rfl
theorem run_s_l00Src_leaves (a : List V) (b : List Blk) : Call tab ow 155 a b = Rn tab ow (endK ⟨26, b_s_l00Src_leaves, [.tmp 2], .false, .false⟩ b.length) [.code b_s_l00Src_leaves] (start a b) := Call_run (af := a_s_l00Src_leaves) rfl a b
theorem ow_s_l00Src_leaves : ow 155 = [] := rfl
theorem run_i_leavesCode (a : List V) (b : List Blk) : Call tab ow 156 a b = Rn tab ow (endK ⟨15, b_i_leavesCode, [.tmp 2], .false, .false⟩ b.length) [.code b_i_leavesCode] (start a b) := Call_run (af := a_i_leavesCode) rfl a b
theorem ow_i_leavesCode : ow 156 = [] := rfl
theorem run_i_rootOf (a : List V) (b : List Blk) : Call tab ow 157 a b = Rn tab ow (endK ⟨11, b_i_rootOf, [.tmp 2], .false, .false⟩ b.length) [.code b_i_rootOf] (start a b) := Call_run (af := a_i_rootOf) rfl a b
theorem ow_i_rootOf : ow 157 = [] := rfl
theorem run_i_levels (a : List V) (b : List Blk) : Call tab ow 158 a b = Rn tab ow (endK ⟨55, b_i_levels, [.tmp 2], .false, .false⟩ b.length) [.code b_i_levels] (start a b) := Call_run (af := a_i_levels) rfl a b
theorem ow_i_levels : ow 158 = [] := rfl
theorem run_i_pathOf (a : List V) (b : List Blk) : Call tab ow 159 a b = Rn tab ow (endK ⟨31, b_i_pathOf, [.tmp 4], .false, .false⟩ b.length) [.code b_i_pathOf] (start a b) := Call_run (af := a_i_pathOf) rfl a b
theorem ow_i_pathOf : ow 159 = [] := rfl
theorem run_i_isLong (a : List V) (b : List Blk) : Call tab ow 160 a b = Rn tab ow (endK ⟨6, b_i_isLong, [.tmp 2], .false, .false⟩ b.length) [.code b_i_isLong] (start a b) := Call_run (af := a_i_isLong) rfl a b
theorem ow_i_isLong : ow 160 = [] := rfl
theorem run_i_placeCode (a : List V) (b : List Blk) : Call tab ow 161 a b = Rn tab ow (endK ⟨15, b_i_placeCode, [.tmp 4], .false, .false⟩ b.length) [.code b_i_placeCode] (start a b) := Call_run (af := a_i_placeCode) rfl a b
theorem ow_i_placeCode : ow 161 = [] := rfl
theorem run_i_leads (a : List V) (b : List Blk) : Call tab ow 162 a b = Rn tab ow (endK ⟨39, b_i_leads, [.tmp 10], .false, .false⟩ b.length) [.code b_i_leads] (start a b) := Call_run (af := a_i_leads) rfl a b
theorem ow_i_leads : ow 162 = [] := rfl
theorem run_i_texts (a : List V) (b : List Blk) : Call tab ow 163 a b = Rn tab ow (endK ⟨41, b_i_texts, [.tmp 6], .false, .false⟩ b.length) [.code b_i_texts] (start a b) := Call_run (af := a_i_texts) rfl a b
theorem ow_i_texts : ow 163 = [] := rfl
theorem run_s_l00Src_bytes (a : List V) (b : List Blk) : Call tab ow 164 a b = Rn tab ow (endK ⟨23, b_s_l00Src_bytes, [.tmp 4], .false, .false⟩ b.length) [.code b_s_l00Src_bytes] (start a b) := Call_run (af := a_s_l00Src_bytes) rfl a b
theorem ow_s_l00Src_bytes : ow 164 = [] := rfl
theorem run_s_l04Ask (a : List V) (b : List Blk) : Call tab ow 165 a b = Rn tab ow (endK ⟨35, b_s_l04Ask, [.tmp 10], .false, .false⟩ b.length) [.code b_s_l04Ask] (start a b) := Call_run (af := a_s_l04Ask) rfl a b
theorem ow_s_l04Ask : ow 165 = [] := rfl
theorem run_s_l04Check (a : List V) (b : List Blk) : Call tab ow 166 a b = Rn tab ow (endK ⟨48, b_s_l04Check, [.tmp 10], .false, .false⟩ b.length) [.code b_s_l04Check] (start a b) := Call_run (af := a_s_l04Check) rfl a b
theorem ow_s_l04Check : ow 166 = [] := rfl
theorem run_s_l04Up (a : List V) (b : List Blk) : Call tab ow 167 a b = Rn tab ow (endK ⟨50, b_s_l04Up, [.tmp 6, .tmp 7], .false, .false⟩ b.length) [.code b_s_l04Up] (start a b) := Call_run (af := a_s_l04Up) rfl a b
theorem ow_s_l04Up : ow 167 = [] := rfl
theorem run_i_keccak (a : List V) (b : List Blk) : Call tab ow 168 a b = Rn tab ow (endK ⟨62, b_i_keccak, [.tmp 2], .false, .false⟩ b.length) [.code b_i_keccak] (start a b) := Call_run (af := a_i_keccak) rfl a b
theorem ow_i_keccak : ow 168 = [] := rfl
theorem run_i_hashOf (a : List V) (b : List Blk) : Call tab ow 179 a b = Rn tab ow (endK ⟨7, b_i_hashOf, [.tmp 2], .false, .false⟩ b.length) [.code b_i_hashOf] (start a b) := Call_run (af := a_i_hashOf) rfl a b
theorem ow_i_hashOf : ow 179 = [] := rfl
theorem run_i_leafText (a : List V) (b : List Blk) : Call tab ow 180 a b = Rn tab ow (endK ⟨5, b_i_leafText, [.tmp 2], .false, .false⟩ b.length) [.code b_i_leafText] (start a b) := Call_run (af := a_i_leafText) rfl a b
theorem ow_i_leafText : ow 180 = [] := rfl
theorem run_i_isHash (a : List V) (b : List Blk) : Call tab ow 181 a b = Rn tab ow (endK ⟨6, b_i_isHash, [.tmp 2], .false, .false⟩ b.length) [.code b_i_isHash] (start a b) := Call_run (af := a_i_isHash) rfl a b
theorem ow_i_isHash : ow 181 = [] := rfl
theorem run_i_nodeText (a : List V) (b : List Blk) : Call tab ow 182 a b = Rn tab ow (endK ⟨9, b_i_nodeText, [.tmp 4], .false, .false⟩ b.length) [.code b_i_nodeText] (start a b) := Call_run (af := a_i_nodeText) rfl a b
theorem ow_i_nodeText : ow 182 = [] := rfl
theorem run_s_l00Src_next (a : List V) (b : List Blk) : Call tab ow 200 a b = Rn tab ow (endK ⟨31, b_s_l00Src_next, [.tmp 4], .false, .false⟩ b.length) [.code b_s_l00Src_next] (start a b) := Call_run (af := a_s_l00Src_next) rfl a b
theorem ow_s_l00Src_next : ow 200 = [] := rfl
theorem run_i_logOf (a : List V) (b : List Blk) : Call tab ow 214 a b = Rn tab ow (endK ⟨7, b_i_logOf, [.tmp 2], .false, .false⟩ b.length) [.code b_i_logOf] (start a b) := Call_run (af := a_i_logOf) rfl a b
theorem ow_i_logOf : ow 214 = [] := rfl
theorem run_s_l00Src_pick (a : List V) (b : List Blk) : Call tab ow 229 a b = Rn tab ow (endK ⟨15, b_s_l00Src_pick, [.tmp 4], .false, .false⟩ b.length) [.code b_s_l00Src_pick] (start a b) := Call_run (af := a_s_l00Src_pick) rfl a b
theorem ow_s_l00Src_pick : ow 229 = [] := rfl
theorem run_slices_ContainsFunc_Lstring_string (a : List V) (b : List Blk) : Call tab ow 242 a b = Rn tab ow (endK ⟨9, b_slices_ContainsFunc_Lstring_string, [.tmp 4], .false, .false⟩ b.length) [.code b_slices_ContainsFunc_Lstring_string] (start a b) := Call_run (af := a_slices_ContainsFunc_Lstring_string) rfl a b
theorem ow_slices_ContainsFunc_Lstring_string : ow 242 = [] := rfl
theorem run_i_leavesCode_1 (a : List V) (b : List Blk) : Call tab ow 243 a b = Rn tab ow (endK ⟨6, b_i_leavesCode_1, [.tmp 2], .false, .false⟩ b.length) [.code b_i_leavesCode_1] (start a b) := Call_run (af := a_i_leavesCode_1) rfl a b
theorem ow_i_leavesCode_1 : ow 243 = [] := rfl
theorem run_i_leads_1 (a : List V) (b : List Blk) : Call tab ow 244 a b = Rn tab ow (endK ⟨6, b_i_leads_1, [.tmp 2], .false, .false⟩ b.length) [.code b_i_leads_1] (start a b) := Call_run (af := a_i_leads_1) rfl a b
theorem ow_i_leads_1 : ow 244 = [] := rfl
theorem run_s_l04Power (a : List V) (b : List Blk) : Call tab ow 245 a b = Rn tab ow (endK ⟨14, b_s_l04Power, [.tmp 4], .false, .false⟩ b.length) [.code b_s_l04Power] (start a b) := Call_run (af := a_s_l04Power) rfl a b
theorem ow_s_l04Power : ow 245 = [] := rfl
theorem run_s_l04Leaf (a : List V) (b : List Blk) : Call tab ow 246 a b = Rn tab ow (endK ⟨6, b_s_l04Leaf, [.tmp 2], .false, .false⟩ b.length) [.code b_s_l04Leaf] (start a b) := Call_run (af := a_s_l04Leaf) rfl a b
theorem ow_s_l04Leaf : ow 246 = [] := rfl
theorem run_s_l03Hash (a : List V) (b : List Blk) : Call tab ow 247 a b = Rn tab ow (endK ⟨57, b_s_l03Hash, [.tmp 2], .false, .false⟩ b.length) [.code b_s_l03Hash] (start a b) := Call_run (af := a_s_l03Hash) rfl a b
theorem ow_s_l03Hash : ow 247 = [] := rfl
theorem run_i_lanesOf (a : List V) (b : List Blk) : Call tab ow 248 a b = Rn tab ow (endK ⟨28, b_i_lanesOf, [.cell 2 (.some 25)], .false, .false⟩ b.length) [.code b_i_lanesOf] (start a b) := Call_run (af := a_i_lanesOf) rfl a b
theorem ow_i_lanesOf : ow 248 = [] := rfl
theorem run_i_lanes_permute (a : List V) (b : List Blk) : Call tab ow 249 a b = Rn tab ow (endK ⟨124, b_i_lanes_permute, [], .false, .false⟩ b.length) [.code b_i_lanes_permute] (start a b) := Call_run (af := a_i_lanes_permute) rfl a b
theorem ow_i_lanes_permute : ow 249 = [] := rfl
theorem run_i_lanes_text (a : List V) (b : List Blk) : Call tab ow 250 a b = Rn tab ow (endK ⟨25, b_i_lanes_text, [.tmp 2], .false, .false⟩ b.length) [.code b_i_lanes_text] (start a b) := Call_run (af := a_i_lanes_text) rfl a b
theorem ow_i_lanes_text : ow 250 = [] := rfl
theorem run_s_l00Src_byte (a : List V) (b : List Blk) : Call tab ow 264 a b = Rn tab ow (endK ⟨76, b_s_l00Src_byte, [.tmp 2], .false, .false⟩ b.length) [.code b_s_l00Src_byte] (start a b) := Call_run (af := a_s_l00Src_byte) rfl a b
theorem ow_s_l00Src_byte : ow 264 = [] := rfl
theorem run_math_bits_Len (a : List V) (b : List Blk) : Call tab ow 267 a b = Rn tab ow (endK ⟨8, b_math_bits_Len, [.tmp 2], .false, .false⟩ b.length) [.code b_math_bits_Len] (start a b) := Call_run (af := a_math_bits_Len) rfl a b
theorem ow_math_bits_Len : ow 267 = [] := rfl
theorem run_slices_IndexFunc_Lstring_string (a : List V) (b : List Blk) : Call tab ow 273 a b = Rn tab ow (endK ⟨19, b_slices_IndexFunc_Lstring_string, [.tmp 4], .false, .false⟩ b.length) [.code b_slices_IndexFunc_Lstring_string] (start a b) := Call_run (af := a_slices_IndexFunc_Lstring_string) rfl a b
theorem ow_slices_IndexFunc_Lstring_string : ow 273 = [] := rfl
theorem run_s_l03Lanes (a : List V) (b : List Blk) : Call tab ow 274 a b = Rn tab ow (endK ⟨28, b_s_l03Lanes, [.cell 2 (.some 25)], .false, .false⟩ b.length) [.code b_s_l03Lanes] (start a b) := Call_run (af := a_s_l03Lanes) rfl a b
theorem ow_s_l03Lanes : ow 274 = [] := rfl
theorem run_s_l03Permute (a : List V) (b : List Blk) : Call tab ow 275 a b = Rn tab ow (endK ⟨149, b_s_l03Permute, [.cell 2 (.some 25)], .false, .false⟩ b.length) [.code b_s_l03Permute] (start a b) := Call_run (af := a_s_l03Permute) rfl a b
theorem ow_s_l03Permute : ow 275 = [] := rfl
theorem run_s_l03Text (a : List V) (b : List Blk) : Call tab ow 276 a b = Rn tab ow (endK ⟨28, b_s_l03Text, [.tmp 4], .false, .false⟩ b.length) [.code b_s_l03Text] (start a b) := Call_run (af := a_s_l03Text) rfl a b
theorem ow_s_l03Text : ow 276 = [] := rfl
theorem run_math_bits_RotateLeft64 (a : List V) (b : List Blk) : Call tab ow 277 a b = Rn tab ow (endK ⟨17, b_math_bits_RotateLeft64, [.tmp 4], .false, .false⟩ b.length) [.code b_math_bits_RotateLeft64] (start a b) := Call_run (af := a_math_bits_RotateLeft64) rfl a b
theorem ow_math_bits_RotateLeft64 : ow 277 = [] := rfl
theorem run_math_bits_Len64 (a : List V) (b : List Blk) : Call tab ow 289 a b = Rn tab ow (endK ⟨25, b_math_bits_Len64, [.tmp 2], .false, .false⟩ b.length) [.code b_math_bits_Len64] (start a b) := Call_run (af := a_math_bits_Len64) rfl a b
theorem ow_math_bits_Len64 : ow 289 = [] := rfl
theorem run_s_l03Rounds (a : List V) (b : List Blk) : Call tab ow 290 a b = Rn tab ow (endK ⟨2, b_s_l03Rounds, [.cell 0 (.some 24)], .false, .false⟩ b.length) [.code b_s_l03Rounds] (start a b) := Call_run (af := a_s_l03Rounds) rfl a b
theorem ow_s_l03Rounds : ow 290 = [] := rfl
theorem run_s_l03Shifts (a : List V) (b : List Blk) : Call tab ow 291 a b = Rn tab ow (endK ⟨2, b_s_l03Shifts, [.cell 0 (.some 25)], .false, .false⟩ b.length) [.code b_s_l03Shifts] (start a b) := Call_run (af := a_s_l03Shifts) rfl a b
theorem ow_s_l03Shifts : ow 291 = [] := rfl
theorem run_s_l03Turn (a : List V) (b : List Blk) : Call tab ow 292 a b = Rn tab ow (endK ⟨16, b_s_l03Turn, [.tmp 4], .false, .false⟩ b.length) [.code b_s_l03Turn] (start a b) := Call_run (af := a_s_l03Turn) rfl a b
theorem ow_s_l03Turn : ow 292 = [] := rfl
attribute [go_sem] ow_w_FnCollision ow_w_at ow_s_LeavesOf ow_i_MerkleRoot ow_i_MerklePath ow_i_ExtractCollision ow_s_BytesOf ow_s_ExtractCollision ow_i_Keccak256 ow_s_l00Source
attribute [go_sem] ow_i_in ow_i_isPower ow_s_l01In ow_s_l00Src_leaves ow_i_leavesCode ow_i_rootOf ow_i_levels ow_i_pathOf ow_i_isLong ow_i_placeCode
attribute [go_sem] ow_i_leads ow_i_texts ow_s_l00Src_bytes ow_s_l04Ask ow_s_l04Check ow_s_l04Up ow_i_keccak ow_i_hashOf ow_i_leafText ow_i_isHash
attribute [go_sem] ow_i_nodeText ow_s_l00Src_next ow_i_logOf ow_s_l00Src_pick ow_slices_ContainsFunc_Lstring_string ow_i_leavesCode_1 ow_i_leads_1 ow_s_l04Power ow_s_l04Leaf ow_s_l03Hash
attribute [go_sem] ow_i_lanesOf ow_i_lanes_permute ow_i_lanes_text ow_s_l00Src_byte ow_math_bits_Len ow_slices_IndexFunc_Lstring_string ow_s_l03Lanes ow_s_l03Permute ow_s_l03Text ow_math_bits_RotateLeft64
attribute [go_sem] ow_math_bits_Len64 ow_s_l03Rounds ow_s_l03Shifts ow_s_l03Turn
end Go.AI.Fn
