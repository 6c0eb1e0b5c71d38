/- The table. -/
import Derived.Test.YtgjlndaebhaciaaTc0
import Derived.Test.YtgjlndaebhaciaaAiEntX
set_option linter.unusedVariables false
set_option maxRecDepth 100000
namespace Go.AI.Fn
noncomputable def In:List (Nat×zT):=[(3,.code a_w_FnExactSystemOf),(7,.code gL),(8,.code ir),(9,.code fA),(10,.code gI),(11,.code ix),(12,.code gK),(13,.code eV),(14,.code fO),(15,.code fN),(22,.code gS),(39,.code ja),(40,.code gz),(41,.code gG),(42,.code jr),(43,.code cO),(44,.code iA),(45,.code jp),(46,.code gV),(47,.code fP),(48,.code fL),(59,.code wl),(60,.code cN),(61,.code kn),(62,.code eQ),(66,.code jm),(72,.code qV),(88,.code mY),(89,.code je),(90,.code is),(91,.code js),(92,.code iv),(93,.code ku),(94,.code fE),(95,.ext (vl true)),(96,.code jf),(97,.code ky),(100,.code jg),(105,.code kF),(130,.code jn),(131,.code kN),(132,.code kB),(133,.code dW),(134,.code gX)]
noncomputable def tab:Tab:=fun f=>b7 In f
def owL:List (Nat×List Nat):=[(9,[2000]),(10,[2000]),(13,[0]),(14,[0]),(42,[2000]),(43,[2000]),(46,[0]),(47,[0]),(133,[3000])]
def ow:be:=fun f=>owg owL f
theorem Hq (f:Nat):ow f=owg owL f:=rfl
theorem OO:owL=[(9,[2000]),(10,[2000]),(13,[0]),(14,[0]),(42,[2000]),(43,[2000]),(46,[0]),(47,[0]),(133,[3000])]:=rfl
attribute [go_sem] Hq OO
end Go.AI.Fn
