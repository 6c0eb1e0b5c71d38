/- The table. -/
import Derived.Test.YtgjlndaebhaciaaTc0
import Derived.Test.YtgjlndaebhaciaaAiEntX
set_option linter.unusedVariables false
set_option maxRecDepth 100000
namespace Go.AI.Fn
noncomputable def Fu:List (Nat×zT):=[(3,.code a_w_FnExactSystemOf),(7,.code gU),(8,.code iz),(9,.code fH),(10,.code gX),(11,.code iA),(12,.code gN),(13,.code eX),(14,.code fR),(15,.code fK),(22,.code gG),(39,.code j8),(40,.code gK),(41,.code gR),(42,.code ja),(43,.code cO),(44,.code iw),(45,.code js),(46,.code gI),(47,.code fu),(48,.code fC),(59,.code vX),(60,.code cN),(61,.code kH),(62,.code eW),(66,.code jd),(72,.code r5),(88,.code ng),(89,.code jg),(90,.code iv),(91,.code jr),(92,.code is),(93,.code kw),(94,.code fx),(95,.ext (wo true)),(96,.code jl),(97,.code kv),(100,.code jo),(105,.code kn),(130,.code je),(131,.code kq),(132,.code kP),(133,.code ea),(134,.code gV)]
noncomputable def tab:Tab:=fun f=>b7 Fu f
def owL:List (Nat×List Nat):=[(9,[2000]),(10,[2000]),(13,[0]),(14,[0]),(42,[2000]),(43,[2000]),(46,[0]),(47,[0]),(133,[3000])]
def ow:bf:=fun f=>owg owL f
theorem IS (f:Nat):ow f=owg owL f:=rfl
theorem Oc:owL=[(9,[2000]),(10,[2000]),(13,[0]),(14,[0]),(42,[2000]),(43,[2000]),(46,[0]),(47,[0]),(133,[3000])]:=rfl
attribute [go_sem] IS Oc
end Go.AI.Fn
