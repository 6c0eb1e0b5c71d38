/- The table. -/
import Derived.Test.YtgjlndaebhaciaaSo1
set_option linter.unusedVariables false
set_option maxRecDepth 100000
namespace Go.AI.So
noncomputable def Fu:List (Nat×zT):=[(108,.code eQ),(137,.code ix),(138,.code dI),(152,.code eV)]
noncomputable def tab:Tab:=fun f=>b7 Fu f
def owL:List (Nat×List Nat):=[]
def ow:bf:=fun f=>owg owL f
theorem IS (f:Nat):ow f=owg owL f:=rfl
theorem Oc:owL=[]:=rfl
attribute [go_sem] IS Oc
end Go.AI.So
