/- The table. -/
import Derived.Test.YtgjlndaebhaciaaTc0
import Derived.Test.YtgjlndaebhaciaaAiEntX
set_option linter.unusedVariables false
set_option maxRecDepth 100000
namespace Go.AI.Fn
noncomputable def EL:List (Nat×AK):=[(3,.code a_w_FnExactSystemOf),(7,.code gG),(8,.code iw),(9,.code fK),(10,.code gz),(11,.code is),(12,.code gH),(13,.code eV),(14,.code fG),(15,.code fA),(22,.code gV),(39,.code jl),(40,.code gL),(41,.code gU),(42,.code jk),(43,.code cN),(44,.code ir),(45,.code jp),(46,.code gB),(47,.code fL),(48,.code fI),(59,.code uT),(60,.code cO),(61,.code ko),(62,.code eQ),(66,.code ja),(72,.code rg),(88,.code nf),(89,.code jg),(90,.code iy),(91,.code jc),(92,.code ip),(93,.code kS),(94,.code fF),(95,.ext (vY true)),(96,.code ji),(97,.code ky),(100,.code je),(105,.code kq),(130,.code jf),(131,.code kD),(132,.code kz),(133,.code dY),(134,.code gR)]
noncomputable def tab:Tab:=fun f=>b7 EL f
def owL:List (Nat×List Nat):=[(9,[2000]),(10,[2000]),(13,[0]),(14,[0]),(42,[2000]),(43,[2000]),(46,[0]),(47,[0]),(133,[3000])]
def ow:be:=fun f=>owg owL f
theorem HI (f:Nat):ow f=owg owL f:=rfl
theorem Ny:owL=[(9,[2000]),(10,[2000]),(13,[0]),(14,[0]),(42,[2000]),(43,[2000]),(46,[0]),(47,[0]),(133,[3000])]:=rfl
attribute [go_sem] HI Ny
end Go.AI.Fn
