/- The table. -/
import Derived.Test.YtgjlndaebhaciaaSo1
set_option linter.unusedVariables false
set_option maxRecDepth 100000
namespace Go.AI.So
noncomputable def NC:List (Nat×Ih):=[(108,.code cr),(137,.code dx),(138,.code bM),(152,.code cx)]
noncomputable def tab:Tab:=fun f=>bC NC f
def owL:List (Nat×List Nat):=[]
def ow:bK:=fun f=>owg owL f
theorem N8 (f:Nat):ow f=owg owL f:=rfl
theorem ZJ:owL=[]:=rfl
attribute [go_sem] N8 ZJ
end Go.AI.So
