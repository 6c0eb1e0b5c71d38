/- Structs. -/
import Derived.Test.YtjeihkabobjlbaaTb1
namespace Go.AI.Fn
def alt {α β γ : Type} (f : α → γ) (g : β → γ) : α ⊕ β → γ
  | .inl a => f a
  | .inr b => g b
theorem alt_inl {α β γ : Type} (f : α → γ) (g : β → γ) (a : α) : alt f g (.inl a) = f a := rfl
theorem alt_inr {α β γ : Type} (f : α → γ) (g : β → γ) (b : β) : alt f g (.inr b) = g b := rfl
attribute [go_sem] alt_inl alt_inr
structure Setting where
  Rate : Int
  Queries : Int
  Grind : Int
def eSetting : En Setting := ⟨3, fun x => [I x.Rate, I x.Queries, I x.Grind]⟩
theorem eSetting_esz : eSetting.esz = 3 := by decide
theorem eSetting_enc (x : Setting) : eSetting.enc x = [I x.Rate, I x.Queries, I x.Grind] := rfl
theorem consSetting (a0 : Int) (a1 : Int) (a2 : Int) (l : List Setting) : consR [I a0, I a1, I a2] (rws eSetting l) = rws eSetting ((⟨a0, a1, a2⟩ : Setting) :: l) := rfl
theorem setSetting (a0 : Int) (a1 : Int) (a2 : Int) (l : List Setting) (i : Nat) : setR (rws eSetting l) i [I a0, I a1, I a2] = rws eSetting (l.set i (⟨a0, a1, a2⟩ : Setting)) := by simp [setR, rws, eSetting]
theorem etaSetting (x : Setting) : Setting.mk x.Rate x.Queries x.Grind = x := rfl
attribute [go_sem] eSetting_esz eSetting_enc consSetting setSetting etaSetting
end Go.AI.Fn
