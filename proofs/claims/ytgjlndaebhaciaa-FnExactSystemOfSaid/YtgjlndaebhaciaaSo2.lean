/- The table. -/
import Derived.Test.YtgjlndaebhaciaaSo1
set_option linter.unusedVariables false
set_option maxRecDepth 100000
namespace Go.AI.So
noncomputable def Gf:List (Nat×A2):=[(108,.code eQ),(137,.code iy),(138,.code dH),(152,.code eX)]
noncomputable def tab:Tab:=fun f=>b7 Gf f
def owL:List (Nat×List Nat):=[]
def ow:be:=fun f=>owg owL f
theorem IF (f:Nat):ow f=owg owL f:=rfl
theorem Qv:owL=[]:=rfl
attribute [go_sem] IF Qv
end Go.AI.So
