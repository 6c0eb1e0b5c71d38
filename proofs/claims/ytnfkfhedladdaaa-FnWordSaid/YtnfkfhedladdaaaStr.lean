/- Structs. -/
import Derived.Test.YtnfkfhedladdaaaTb1
import Derived.Test.YtnfkfhedladdaaaAiArg
namespace Go.AI.Fn
structure Ext where
  A : Int
  B : Int
structure l00Src where
  code : (List UInt8)
  at_ : Int
  seed : Int
def eExt : En Ext := ⟨2, fun x => [I x.A, I x.B]⟩
def bdExt (x : Ext) : Prop := bdI x.A ∧ bdI x.B
theorem eExt_esz : eExt.esz = 2 := by decide
theorem eExt_enc (x : Ext) : eExt.enc x = [I x.A, I x.B] := rfl
theorem consExt (a0 : Int) (a1 : Int) (l : List Ext) : consR [I a0, I a1] (rws eExt l) = rws eExt ((⟨a0, a1⟩ : Ext) :: l) := rfl
theorem setExt (a0 : Int) (a1 : Int) (l : List Ext) (i : Nat) : setR (rws eExt l) i [I a0, I a1] = rws eExt (l.set i (⟨a0, a1⟩ : Ext)) := by simp [setR, rws, eExt]
theorem etaExt (x : Ext) : Ext.mk x.A x.B = x := rfl
attribute [go_sem] eExt_esz eExt_enc consExt setExt etaExt
def el00Src : En l00Src := ⟨3, fun x => [sl eU8 x.code, I x.at_, I x.seed]⟩
def bdl00Src (x : l00Src) : Prop := bdL (bdT (α := UInt8)) x.code ∧ bdI x.at_ ∧ bdI x.seed
theorem el00Src_esz : el00Src.esz = 3 := by decide
theorem el00Src_enc (x : l00Src) : el00Src.enc x = [sl eU8 x.code, I x.at_, I x.seed] := rfl
theorem consl00Src (a0 : (List UInt8)) (a1 : Int) (a2 : Int) (l : List l00Src) : consR [sl eU8 a0, I a1, I a2] (rws el00Src l) = rws el00Src ((⟨a0, a1, a2⟩ : l00Src) :: l) := rfl
theorem setl00Src (a0 : (List UInt8)) (a1 : Int) (a2 : Int) (l : List l00Src) (i : Nat) : setR (rws el00Src l) i [sl eU8 a0, I a1, I a2] = rws el00Src (l.set i (⟨a0, a1, a2⟩ : l00Src)) := by simp [setR, rws, el00Src]
theorem etal00Src (x : l00Src) : l00Src.mk x.code x.at_ x.seed = x := rfl
attribute [go_sem] el00Src_esz el00Src_enc consl00Src setl00Src etal00Src
theorem consl00Src_1 (a1 : Int) (a2 : Int) (l : List l00Src) : consR [.imm 1 [], I a1, I a2] (rws el00Src l) = rws el00Src ((⟨[], a1, a2⟩ : l00Src) :: l) := rfl
attribute [go_sem] consl00Src_1
end Go.AI.Fn
