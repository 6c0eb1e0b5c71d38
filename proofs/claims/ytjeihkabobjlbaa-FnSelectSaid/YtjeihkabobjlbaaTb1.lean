/- The table. -/
import Derived.Test.YtjeihkabobjlbaaTb0
import Derived.Test.YtjeihkabobjlbaaAiW
set_option linter.unusedVariables false
set_option maxRecDepth 100000
namespace Go.AI.Fn
def tabL : List (Nat × FDef) := [(6, .code a_w_FnSelect), (12, .code a_i_QueryBits), (14, .code a_i_Secure), (15, .code a_s_Select), (16, .code a_i_Select), (18, .code a_w_at), (29, .code a_s_l15Bits), (30, .code a_i_SettingOK), (31, .code a_i_Setting_bitsOf), (32, .code a_s_l01In), (33, .code a_i_in), (46, .code a_s_l15Enough)]
def tab : Tab := fun f => aget tabL f
def owL : List (Nat × List Nat) := []
def ow : Owns := fun f => (aget owL f).getD []
theorem run_w_FnSelect (a : List V) (b : List Blk) : Call tab ow 6 a b = Rn tab ow (endK ⟨157, b_w_FnSelect, [.tmp 4], .false, .false⟩ b.length) [.code b_w_FnSelect] (start a b) := Call_run (af := a_w_FnSelect) rfl a b
theorem ow_w_FnSelect : ow 6 = [] := rfl
theorem run_i_QueryBits (a : List V) (b : List Blk) : Call tab ow 12 a b = Rn tab ow (endK ⟨9, b_i_QueryBits, [.tmp 2, .tmp 3], .false, .false⟩ b.length) [.code b_i_QueryBits] (start a b) := Call_run (af := a_i_QueryBits) rfl a b
theorem ow_i_QueryBits : ow 12 = [] := rfl
theorem run_i_Secure (a : List V) (b : List Blk) : Call tab ow 14 a b = Rn tab ow (endK ⟨18, b_i_Secure, [.tmp 4, .tmp 5], .false, .false⟩ b.length) [.code b_i_Secure] (start a b) := Call_run (af := a_i_Secure) rfl a b
theorem ow_i_Secure : ow 14 = [] := rfl
theorem run_s_Select (a : List V) (b : List Blk) : Call tab ow 15 a b = Rn tab ow (endK ⟨39, b_s_Select, [.cell 6 (.some 3), .tmp 7], .false, .false⟩ b.length) [.code b_s_Select] (start a b) := Call_run (af := a_s_Select) rfl a b
theorem ow_s_Select : ow 15 = [] := rfl
theorem run_i_Select (a : List V) (b : List Blk) : Call tab ow 16 a b = Rn tab ow (endK ⟨38, b_i_Select, [.cell 6 (.some 3), .tmp 7], .false, .false⟩ b.length) [.code b_i_Select] (start a b) := Call_run (af := a_i_Select) rfl a b
theorem ow_i_Select : ow 16 = [] := rfl
theorem run_w_at (a : List V) (b : List Blk) : Call tab ow 18 a b = Rn tab ow (endK ⟨42, b_w_at, [.tmp 6], .false, .false⟩ b.length) [.code b_w_at] (start a b) := Call_run (af := a_w_at) rfl a b
theorem ow_w_at : ow 18 = [] := rfl
theorem run_s_l15Bits (a : List V) (b : List Blk) : Call tab ow 29 a b = Rn tab ow (endK ⟨14, b_s_l15Bits, [.tmp 4], .false, .false⟩ b.length) [.code b_s_l15Bits] (start a b) := Call_run (af := a_s_l15Bits) rfl a b
theorem ow_s_l15Bits : ow 29 = [] := rfl
theorem run_i_SettingOK (a : List V) (b : List Blk) : Call tab ow 30 a b = Rn tab ow (endK ⟨16, b_i_SettingOK, [.tmp 2], .false, .false⟩ b.length) [.code b_i_SettingOK] (start a b) := Call_run (af := a_i_SettingOK) rfl a b
theorem ow_i_SettingOK : ow 30 = [] := rfl
theorem run_i_Setting_bitsOf (a : List V) (b : List Blk) : Call tab ow 31 a b = Rn tab ow (endK ⟨34, b_i_Setting_bitsOf, [.tmp 2], .false, .false⟩ b.length) [.code b_i_Setting_bitsOf] (start a b) := Call_run (af := a_i_Setting_bitsOf) rfl a b
theorem ow_i_Setting_bitsOf : ow 31 = [] := rfl
theorem run_s_l01In (a : List V) (b : List Blk) : Call tab ow 32 a b = Rn tab ow (endK ⟨15, b_s_l01In, [.tmp 6], .false, .false⟩ b.length) [.code b_s_l01In] (start a b) := Call_run (af := a_s_l01In) rfl a b
theorem ow_s_l01In : ow 32 = [] := rfl
theorem run_i_in (a : List V) (b : List Blk) : Call tab ow 33 a b = Rn tab ow (endK ⟨15, b_i_in, [.tmp 6], .false, .false⟩ b.length) [.code b_i_in] (start a b) := Call_run (af := a_i_in) rfl a b
theorem ow_i_in : ow 33 = [] := rfl
theorem run_s_l15Enough (a : List V) (b : List Blk) : Call tab ow 46 a b = Rn tab ow (endK ⟨36, b_s_l15Enough, [.tmp 6], .false, .false⟩ b.length) [.code b_s_l15Enough] (start a b) := Call_run (af := a_s_l15Enough) rfl a b
theorem ow_s_l15Enough : ow 46 = [] := rfl
attribute [go_sem] ow_w_FnSelect ow_i_QueryBits ow_i_Secure ow_s_Select ow_i_Select ow_w_at ow_s_l15Bits ow_i_SettingOK ow_i_Setting_bitsOf ow_s_l01In
attribute [go_sem] ow_i_in ow_s_l15Enough
end Go.AI.Fn
