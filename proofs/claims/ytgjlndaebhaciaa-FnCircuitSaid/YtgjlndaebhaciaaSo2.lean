/- The table. -/
import Derived.Test.YtgjlndaebhaciaaSo1
set_option linter.unusedVariables false
set_option maxRecDepth 100000
namespace Go.AI.So
noncomputable def KM:List (Nat×ED):=[(108,.code cc),(137,.code dl),(138,.code bF),(152,.code cf)]
noncomputable def tab:Tab:=fun f=>bt KM f
def owL:List (Nat×List Nat):=[]
def ow:bB:=fun f=>owg owL f
theorem N9 (f:Nat):ow f=owg owL f:=rfl
theorem TY:owL=[]:=rfl
attribute [go_sem] N9 TY
end Go.AI.So
