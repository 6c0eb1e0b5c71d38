/- The table. -/
import Derived.Test.YtgjlndaebhaciaaTc0
import Derived.Test.YtgjlndaebhaciaaAiEntX
set_option linter.unusedVariables false
set_option maxRecDepth 100000
namespace Go.AI.Fn
noncomputable def KM:List (Nat×ED):=[(4,.code a_w_FnCircuit),(8,.code l8),(10,.code lw),(16,.code jA),(17,.code lj),(18,.code iI),(19,.code iP),(20,.code jz),(21,.code n7),(22,.code jG),(23,.code li),(24,.code ln),(25,.code i9),(26,.code lf),(27,.code jC),(40,.code jD),(41,.code jw),(43,.code fh),(49,.code jt),(50,.code fb),(51,.code fK),(52,.code mG),(53,.code i7),(54,.code oc),(55,.code oD),(56,.code mM),(57,.ext (Bl 57 aU)),(58,.code fk),(59,.code Ak),(60,.code eo),(61,.code oS),(62,.code ia),(63,.code en),(64,.code lu),(65,.code n8),(66,.code mW),(67,.code fO),(68,.code i4),(69,.code fP),(72,.code wi),(88,.code rn),(89,.code mI),(90,.code lh),(91,.code mK),(92,.code ll),(94,.code iM),(95,.ext (BX false)),(98,.code ib),(99,.code fM),(100,.code na),(101,.code gq),(102,.code wv),(103,.code wl),(104,.code js),(105,.code og),(106,.code oH),(107,.code oF),(108,.code cc),(109,.code bP),(110,.code jF),(111,.code mH),(130,.code mL),(131,.code oq),(132,.code oh),(133,.code gw),(134,.code jv),(136,.code hZ),(137,.code dl),(138,.code bF),(139,.code ct),(152,.code cf)]
noncomputable def tab:Tab:=fun f=>bt KM f
def owL:List (Nat×List Nat):=[(133,[3000])]
def ow:bB:=fun f=>owg owL f
theorem N9 (f:Nat):ow f=owg owL f:=rfl
theorem TY:owL=[(133,[3000])]:=rfl
attribute [go_sem] N9 TY
theorem nJ (ad:Option Addr) (cap:Nat):Call (w7 57 aU) xh 57 [.lit (.slice ad 0 cap)] []=some (.imm 1 [],[]):=by
 have h0: ∀(h:ak) (a:Addr),bA h 1 (.lit (.slice (some a) 0 cap))=some (rws (⟨1,fun _=>[]⟩:En Unit) []):=fun _ _=>rfl
 have h1: ∀b (a:Addr),sr b (.lit (.slice (some a) 0 cap))=true:=fun _ _=>rfl
 have hf:aK 0 8=true:=by decide
 rw [al (af:=aU) (uG _ _)]
 cases ad with
 |none=>simp+decide only [aU,cZ,GZ,go_sem,reduceIte,Nat.reduceAdd]
 |some a=>simp+decide only [aU,cZ,fun k=>mk0 (⟨1,fun _=>[]⟩:En Unit) k,GI,h0,h1,hf,go_sem,reduceIte,Nat.reduceAdd,NS]
end Go.AI.Fn
