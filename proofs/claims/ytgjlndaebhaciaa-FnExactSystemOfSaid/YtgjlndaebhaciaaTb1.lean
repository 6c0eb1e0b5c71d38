/- The table. -/
import Derived.Test.YtgjlndaebhaciaaTc0
import Derived.Test.YtgjlndaebhaciaaAiEntX
set_option linter.unusedVariables false
set_option maxRecDepth 100000
namespace Go.AI.Fn
noncomputable def Gf:List (Nat×A2):=[(3,.code a_w_FnExactSystemOf),(7,.code gS),(8,.code iz),(9,.code fI),(10,.code gB),(11,.code iv),(12,.code gK),(13,.code eV),(14,.code fR),(15,.code fu),(22,.code gR),(39,.code jc),(40,.code gU),(41,.code gI),(42,.code jn),(43,.code cN),(44,.code iB),(45,.code jk),(46,.code gN),(47,.code fL),(48,.code ft),(59,.code uX),(60,.code cO),(61,.code kv),(62,.code eU),(66,.code jt),(72,.code qW),(88,.code n7),(89,.code jg),(90,.code ip),(91,.code jl),(92,.code ix),(93,.code kL),(94,.code fC),(95,.ext (uR true)),(96,.code jp),(97,.code kF),(100,.code jf),(105,.code kP),(130,.code jm),(131,.code kH),(132,.code kC),(133,.code dW),(134,.code gL)]
noncomputable def tab:Tab:=fun f=>b7 Gf f
def owL:List (Nat×List Nat):=[(9,[2000]),(10,[2000]),(13,[0]),(14,[0]),(42,[2000]),(43,[2000]),(46,[0]),(47,[0]),(133,[3000])]
def ow:be:=fun f=>owg owL f
theorem IF (f:Nat):ow f=owg owL f:=rfl
theorem Qv:owL=[(9,[2000]),(10,[2000]),(13,[0]),(14,[0]),(42,[2000]),(43,[2000]),(46,[0]),(47,[0]),(133,[3000])]:=rfl
attribute [go_sem] IF Qv
end Go.AI.Fn
