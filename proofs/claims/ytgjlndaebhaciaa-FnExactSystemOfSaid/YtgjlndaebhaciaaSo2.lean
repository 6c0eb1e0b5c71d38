/- The table. -/
import Derived.Test.YtgjlndaebhaciaaSo1
set_option linter.unusedVariables false
set_option maxRecDepth 100000
namespace Go.AI.So
noncomputable def EL:List (Nat×AK):=[(108,.code eU),(137,.code iu),(138,.code dF),(152,.code eX)]
noncomputable def tab:Tab:=fun f=>b7 EL f
def owL:List (Nat×List Nat):=[]
def ow:be:=fun f=>owg owL f
theorem HI (f:Nat):ow f=owg owL f:=rfl
theorem Ny:owL=[]:=rfl
attribute [go_sem] HI Ny
end Go.AI.So
