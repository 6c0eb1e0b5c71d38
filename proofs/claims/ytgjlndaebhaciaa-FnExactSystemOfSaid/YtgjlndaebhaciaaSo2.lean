/- The table. -/
import Derived.Test.YtgjlndaebhaciaaSo1
set_option linter.unusedVariables false
set_option maxRecDepth 100000
namespace Go.AI.So
noncomputable def In:List (Nat×zT):=[(108,.code eR),(137,.code iu),(138,.code dF),(152,.code eU)]
noncomputable def tab:Tab:=fun f=>b7 In f
def owL:List (Nat×List Nat):=[]
def ow:be:=fun f=>owg owL f
theorem Hq (f:Nat):ow f=owg owL f:=rfl
theorem OO:owL=[]:=rfl
attribute [go_sem] Hq OO
end Go.AI.So
