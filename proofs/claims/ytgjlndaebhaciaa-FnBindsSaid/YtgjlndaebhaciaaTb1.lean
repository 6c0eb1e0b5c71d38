/- The table. -/
import Derived.Test.YtgjlndaebhaciaaTc0
import Derived.Test.YtgjlndaebhaciaaAiEntX
set_option linter.unusedVariables false
set_option maxRecDepth 100000
namespace Go.AI.Fn
noncomputable def NC:List (Nat×Ih):=[(5,.code a_w_FnBinds),(10,.code mH),(18,.code j9),(20,.code kx),(22,.code kq),(24,.code mG),(26,.code mh),(27,.code kz),(28,.code mI),(29,.code CW),(30,.code yq),(43,.code fG),(49,.code kA),(50,.code fF),(51,.code gk),(52,.code o3),(53,.code iz),(55,.code pS),(56,.code ob),(57,.ext (Dc 57 aS)),(58,.code fB),(59,.code Cr),(60,.code eO),(61,.code pM),(62,.code iA),(63,.code eK),(64,.code mD),(65,.code o8),(66,.code o4),(67,.code gc),(68,.code iF),(69,.code gi),(70,.code gt),(71,.code ym),(72,.code ya),(73,.code iE),(88,.code sU),(90,.code mj),(94,.code jh),(95,.ext (CM false)),(98,.code iI),(99,.code gp),(100,.code ot),(101,.code i5),(102,.code yi),(103,.code yr),(105,.code pQ),(106,.code qF),(107,.code pY),(108,.code cr),(109,.code bY),(110,.code ko),(111,.code nU),(112,.code fA),(113,.code gr),(114,.code jl),(131,.code pU),(133,.code i4),(134,.code ku),(136,.code iD),(137,.code dx),(138,.code bM),(139,.code cE),(140,.code pW),(141,.code iB),(142,.code kG),(143,.code o7),(144,.code qh),(152,.code cx),(153,.code nR),(154,.code kE),(155,.code ms),(166,.code mr),(167,.code jr),(168,.code nS),(174,.code kB),(175,.code ky),(176,.code oq)]
noncomputable def tab:Tab:=fun f=>bC NC f
def owL:List (Nat×List Nat):=[(133,[3000])]
def ow:bK:=fun f=>owg owL f
theorem N8 (f:Nat):ow f=owg owL f:=rfl
theorem ZJ:owL=[(133,[3000])]:=rfl
attribute [go_sem] N8 ZJ
theorem pq (ad:Option Addr) (cap:Nat):Call (xS 57 aS) ze 57 [.lit (.slice ad 0 cap)] []=some (.imm 1 [],[]):=by
 have h0: ∀(h:ak) (a:Addr),bI h 1 (.lit (.slice (some a) 0 cap))=some (rws (⟨1,fun _=>[]⟩:En Unit) []):=fun _ _=>rfl
 have h1: ∀b (a:Addr),ud b (.lit (.slice (some a) 0 cap))=true:=fun _ _=>rfl
 have hf:aK 0 8=true:=by decide
 rw [al (af:=aS) (ww _ _)]
 cases ad with
 |none=>simp+decide only [aS,dh,Jz,go_sem,reduceIte,Nat.reduceAdd]
 |some a=>simp+decide only [aS,dh,fun k=>mk0 (⟨1,fun _=>[]⟩:En Unit) k,IP,h0,h1,hf,go_sem,reduceIte,Nat.reduceAdd,PO]
end Go.AI.Fn
