/- Structs. -/
import Derived.Test.YtjeihkabobjlbaaTb1
namespace Go.AI.Fn
def alt {α β γ : Type} (f : α → γ) (g : β → γ) : α ⊕ β → γ
  | .inl a => f a
  | .inr b => g b
theorem alt_inl {α β γ : Type} (f : α → γ) (g : β → γ) (a : α) : alt f g (.inl a) = f a := rfl
theorem alt_inr {α β γ : Type} (f : α → γ) (g : β → γ) (b : β) : alt f g (.inr b) = g b := rfl
attribute [go_sem] alt_inl alt_inr
structure Entry where
  Row : Int
  Col : Int
  Value : Int
structure System where
  Rows : Int
  Cols : Int
  Publics : Int
  A : (List Entry)
  B : (List Entry)
  C : (List Entry)
structure l00Src where
  code : (List UInt8)
  at_ : Int
  seed : Int
structure Setting where
  Rate : Int
  Queries : Int
  Grind : Int
def eEntry : En Entry := ⟨3, fun x => [I x.Row, I x.Col, I x.Value]⟩
theorem eEntry_esz : eEntry.esz = 3 := by decide
theorem eEntry_enc (x : Entry) : eEntry.enc x = [I x.Row, I x.Col, I x.Value] := rfl
theorem consEntry (a0 : Int) (a1 : Int) (a2 : Int) (l : List Entry) : consR [I a0, I a1, I a2] (rws eEntry l) = rws eEntry ((⟨a0, a1, a2⟩ : Entry) :: l) := rfl
theorem setEntry (a0 : Int) (a1 : Int) (a2 : Int) (l : List Entry) (i : Nat) : setR (rws eEntry l) i [I a0, I a1, I a2] = rws eEntry (l.set i (⟨a0, a1, a2⟩ : Entry)) := by simp [setR, rws, eEntry]
theorem etaEntry (x : Entry) : Entry.mk x.Row x.Col x.Value = x := rfl
attribute [go_sem] eEntry_esz eEntry_enc consEntry setEntry etaEntry
def eSystem : En System := ⟨6, fun x => [I x.Rows, I x.Cols, I x.Publics, sl eEntry x.A, sl eEntry x.B, sl eEntry x.C]⟩
theorem eSystem_esz : eSystem.esz = 6 := by decide
theorem eSystem_enc (x : System) : eSystem.enc x = [I x.Rows, I x.Cols, I x.Publics, sl eEntry x.A, sl eEntry x.B, sl eEntry x.C] := rfl
theorem consSystem (a0 : Int) (a1 : Int) (a2 : Int) (a3 : (List Entry)) (a4 : (List Entry)) (a5 : (List Entry)) (l : List System) : consR [I a0, I a1, I a2, sl eEntry a3, sl eEntry a4, sl eEntry a5] (rws eSystem l) = rws eSystem ((⟨a0, a1, a2, a3, a4, a5⟩ : System) :: l) := rfl
theorem setSystem (a0 : Int) (a1 : Int) (a2 : Int) (a3 : (List Entry)) (a4 : (List Entry)) (a5 : (List Entry)) (l : List System) (i : Nat) : setR (rws eSystem l) i [I a0, I a1, I a2, sl eEntry a3, sl eEntry a4, sl eEntry a5] = rws eSystem (l.set i (⟨a0, a1, a2, a3, a4, a5⟩ : System)) := by simp [setR, rws, eSystem]
theorem etaSystem (x : System) : System.mk x.Rows x.Cols x.Publics x.A x.B x.C = x := rfl
attribute [go_sem] eSystem_esz eSystem_enc consSystem setSystem etaSystem
theorem consSystem_1 (a0 : Int) (a1 : Int) (a2 : Int) (a4 : (List Entry)) (a5 : (List Entry)) (l : List System) : consR [I a0, I a1, I a2, .imm 1 [], sl eEntry a4, sl eEntry a5] (rws eSystem l) = rws eSystem ((⟨a0, a1, a2, [], a4, a5⟩ : System) :: l) := rfl
attribute [go_sem] consSystem_1
theorem consSystem_2 (a0 : Int) (a1 : Int) (a2 : Int) (a3 : (List Entry)) (a5 : (List Entry)) (l : List System) : consR [I a0, I a1, I a2, sl eEntry a3, .imm 1 [], sl eEntry a5] (rws eSystem l) = rws eSystem ((⟨a0, a1, a2, a3, [], a5⟩ : System) :: l) := rfl
attribute [go_sem] consSystem_2
theorem consSystem_3 (a0 : Int) (a1 : Int) (a2 : Int) (a5 : (List Entry)) (l : List System) : consR [I a0, I a1, I a2, .imm 1 [], .imm 1 [], sl eEntry a5] (rws eSystem l) = rws eSystem ((⟨a0, a1, a2, [], [], a5⟩ : System) :: l) := rfl
attribute [go_sem] consSystem_3
theorem consSystem_4 (a0 : Int) (a1 : Int) (a2 : Int) (a3 : (List Entry)) (a4 : (List Entry)) (l : List System) : consR [I a0, I a1, I a2, sl eEntry a3, sl eEntry a4, .imm 1 []] (rws eSystem l) = rws eSystem ((⟨a0, a1, a2, a3, a4, []⟩ : System) :: l) := rfl
attribute [go_sem] consSystem_4
theorem consSystem_5 (a0 : Int) (a1 : Int) (a2 : Int) (a4 : (List Entry)) (l : List System) : consR [I a0, I a1, I a2, .imm 1 [], sl eEntry a4, .imm 1 []] (rws eSystem l) = rws eSystem ((⟨a0, a1, a2, [], a4, []⟩ : System) :: l) := rfl
attribute [go_sem] consSystem_5
theorem consSystem_6 (a0 : Int) (a1 : Int) (a2 : Int) (a3 : (List Entry)) (l : List System) : consR [I a0, I a1, I a2, sl eEntry a3, .imm 1 [], .imm 1 []] (rws eSystem l) = rws eSystem ((⟨a0, a1, a2, a3, [], []⟩ : System) :: l) := rfl
attribute [go_sem] consSystem_6
theorem consSystem_7 (a0 : Int) (a1 : Int) (a2 : Int) (l : List System) : consR [I a0, I a1, I a2, .imm 1 [], .imm 1 [], .imm 1 []] (rws eSystem l) = rws eSystem ((⟨a0, a1, a2, [], [], []⟩ : System) :: l) := rfl
attribute [go_sem] consSystem_7
def el00Src : En l00Src := ⟨3, fun x => [sl eU8 x.code, I x.at_, I x.seed]⟩
theorem el00Src_esz : el00Src.esz = 3 := by decide
theorem el00Src_enc (x : l00Src) : el00Src.enc x = [sl eU8 x.code, I x.at_, I x.seed] := rfl
theorem consl00Src (a0 : (List UInt8)) (a1 : Int) (a2 : Int) (l : List l00Src) : consR [sl eU8 a0, I a1, I a2] (rws el00Src l) = rws el00Src ((⟨a0, a1, a2⟩ : l00Src) :: l) := rfl
theorem setl00Src (a0 : (List UInt8)) (a1 : Int) (a2 : Int) (l : List l00Src) (i : Nat) : setR (rws el00Src l) i [sl eU8 a0, I a1, I a2] = rws el00Src (l.set i (⟨a0, a1, a2⟩ : l00Src)) := by simp [setR, rws, el00Src]
theorem etal00Src (x : l00Src) : l00Src.mk x.code x.at_ x.seed = x := rfl
attribute [go_sem] el00Src_esz el00Src_enc consl00Src setl00Src etal00Src
theorem consl00Src_1 (a1 : Int) (a2 : Int) (l : List l00Src) : consR [.imm 1 [], I a1, I a2] (rws el00Src l) = rws el00Src ((⟨[], a1, a2⟩ : l00Src) :: l) := rfl
attribute [go_sem] consl00Src_1
def eSetting : En Setting := ⟨3, fun x => [I x.Rate, I x.Queries, I x.Grind]⟩
theorem eSetting_esz : eSetting.esz = 3 := by decide
theorem eSetting_enc (x : Setting) : eSetting.enc x = [I x.Rate, I x.Queries, I x.Grind] := rfl
theorem consSetting (a0 : Int) (a1 : Int) (a2 : Int) (l : List Setting) : consR [I a0, I a1, I a2] (rws eSetting l) = rws eSetting ((⟨a0, a1, a2⟩ : Setting) :: l) := rfl
theorem setSetting (a0 : Int) (a1 : Int) (a2 : Int) (l : List Setting) (i : Nat) : setR (rws eSetting l) i [I a0, I a1, I a2] = rws eSetting (l.set i (⟨a0, a1, a2⟩ : Setting)) := by simp [setR, rws, eSetting]
theorem etaSetting (x : Setting) : Setting.mk x.Rate x.Queries x.Grind = x := rfl
attribute [go_sem] eSetting_esz eSetting_enc consSetting setSetting etaSetting
end Go.AI.Fn
