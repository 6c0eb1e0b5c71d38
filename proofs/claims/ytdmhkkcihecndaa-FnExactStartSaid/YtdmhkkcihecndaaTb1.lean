/- The table. -/
import Derived.Test.YtdmhkkcihecndaaTc0
set_option linter.unusedVariables false
set_option maxRecDepth 100000
namespace Go.AI.Fn
noncomputable def V8:List (Nat×Nt):=[(7,.code a_w_FnExactStart),(19,.code iy),(26,.code jU),(27,.code ng),(29,.code iP),(30,.code nj),(31,.code pP),(33,.code nP),(34,.code jP),(35,.code hO),(36,.code jR),(37,.code kf),(43,.code jM),(44,.code qf),(45,.code n7),(46,.code iL),(47,.code n9),(48,.code jH),(49,.code ne),(50,.code jS),(51,.code hI),(52,.code gG),(62,.code AO),(64,.code lv),(66,.code iA),(67,.code qh),(71,.code iz),(72,.code pW),(81,.code pS),(89,.code k9),(90,.code jJ),(91,.code lx),(93,.code kj),(94,.code jZ),(96,.code jL),(97,.code i0),(106,.code nL),(107,.code ni),(108,.code jD),(109,.code iN),(110,.code ej),(111,.code e7),(112,.code iG),(127,.code bc),(128,.code fT),(135,.code pN),(136,.code iE),(144,.code n6),(152,.code lc),(154,.code lk),(155,.code fV),(156,.code dE),(157,.code jG),(159,.code lw),(162,.code iF),(165,.code mf),(166,.code iJ),(167,.code jV),(168,.code jE),(169,.code iT),(170,.code ix),(171,.code lf),(172,.code ki),(173,.code fS),(174,.ext (B3 174 aj 2)),(175,.code mZ),(176,.code di),(184,.code bo),(186,.code ln),(197,.code fZ),(201,.code lm),(202,.code bw),(203,.code iD),(204,.code ld),(205,.code eO),(206,.code gI),(214,.code jN),(215,.code eF),(216,.code ke),(217,.code gL),(218,.code lr),(219,.code bQ),(220,.code co),(222,.code fU),(223,.code iK),(224,.code iC),(225,.code le)]
noncomputable def tab:Tab:=fun f=>bT V8 f
def owL:List (Nat×List Nat):=[(29,[2000]),(30,[2000]),(35,[0]),(36,[0]),(45,[2000]),(46,[2000]),(47,[2000]),(50,[0]),(51,[0]),(93,[2000]),(97,[0]),(165,[0,1000])]
def ow:bP:=fun f=>owg owL f
theorem UV (f:Nat):ow f=owg owL f:=rfl
theorem W8:owL=[(29,[2000]),(30,[2000]),(35,[0]),(36,[0]),(45,[2000]),(46,[2000]),(47,[2000]),(50,[0]),(51,[0]),(93,[2000]),(97,[0]),(165,[0,1000])]:=rfl
attribute [go_sem] UV W8
theorem jF (cap:Nat): ∃n,fA aj 0 (aQ (bz (tV 174 aj) ul n) ul n aj.body (start [.lit (.slice none 0 cap)] []))=some (.lit (.slice none 0 0),[]):=⟨9,rfl⟩
theorem jT (ad:Addr) (cap:Nat):Call (tV 174 aj) ul 174 [.lit (.slice (some ad) 0 cap)] []=some (.sl 0 0 0,[⟨2,false,[]⟩]):=by
 have h0: ∀(h:ag) (a:Addr),bg h 2 (.lit (.slice (some a) 0 cap))=some (rws (⟨2,fun _=>[]⟩:En Unit) []):=fun _ _=>rfl
 have h1: ∀b (a:Addr),ra b (.lit (.slice (some a) 0 cap))=true:=fun _ _=>rfl
 have hf:dC 0 16=true:=by decide
 rw [ab (af:=aj) (tK _ _)]
 simp+decide only [aj,cK,fun k=>mk0 (⟨2,fun _=>[]⟩:En Unit) k,GD,h0,h1,hf,go_sem,reduceIte,Nat.reduceAdd]
 rfl
end Go.AI.Fn
