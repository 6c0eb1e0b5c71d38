/- The table. -/
import Derived.Test.YtdmhkkcihecndaaGreatTb0
set_option linter.unusedVariables false
set_option maxRecDepth 100000
namespace Go.AI.Fn
noncomputable def b5N:List (Nat×b02):=[(3,.code a_w_FnOpens),(9,.code TB),(10,.code y4),(11,.code oT),(12,.code rd),(13,.code ls),(14,.code lk),(15,.code oY),(16,.code oo),(17,.code le),(18,.code mI),(19,.code ve),(20,.code ki),(21,.code yl),(22,.code Lo),(23,.code oD),(24,.code jQ),(25,.code oU),(26,.code oE),(28,.code oS),(57,.code oI),(58,.code lr),(59,.code il),(60,.code jk),(61,.code v5),(62,.code SL),(63,.code yc),(64,.code yN),(65,.code v9),(66,.code vf),(67,.code ug),(68,.code ub),(69,.code C9),(70,.code uq),(71,.code ou),(72,.code uO),(73,.code u4),(74,.code rx),(75,.code lA),(76,.code jd),(77,.code lc),(78,.code rq),(79,.code oN),(80,.code qW),(81,.code rI),(82,.code uW),(83,.code y7),(84,.code mY),(85,.code oi),(86,.code qQ),(87,.code Ld),(88,.code uM),(89,.code xM),(90,.code oF),(91,.code Ci),(92,.code ka),(93,.code yz),(94,.code ry),(95,.code yb),(96,.code Co),(97,.code rK),(98,.code oG),(99,.code n8),(100,.code z7),(101,.code lj),(102,.code lm),(103,.code uT),(105,.code vi),(143,.code n7),(144,.code ly),(145,.code xJ),(146,.code lw),(147,.code j8),(148,.code oM),(149,.code u6),(150,.code uk),(151,.code za),(152,.code rk),(153,.code Ll),(154,.code yk),(155,.code oQ),(156,.code rO),(157,.code qY),(158,.code oy),(159,.code qR),(160,.code ov),(161,.code ra),(162,.ext (U6 162 aE 2)),(163,.code gI),(164,.code jl),(165,.code qP),(166,.code j9),(167,.code fK),(168,.code jT),(169,.code wF),(170,.code yd),(171,.code jZ),(172,.code yJ),(173,.code BN),(174,.code qO),(175,.code v4),(176,.code uA),(177,.code uX),(178,.code qZ),(179,.code p5),(180,.code oq),(181,.code uc),(182,.code oB),(183,.code Lw),(184,.code cc),(185,.code lf),(186,.code vg),(187,.code g6),(188,.code iy),(189,.code GE),(190,.code ln),(191,.code mE),(192,.code Ls),(193,.code ui),(194,.code j7),(195,.code mR),(196,.code ue),(197,.code z9),(198,.code ul),(199,.code yt),(200,.code ud),(201,.code vc),(202,.code rF),(203,.code bR),(204,.code lh),(205,.code aZ),(206,.code jY),(207,.code bL),(208,.code jb),(210,.code tY),(215,.code uz),(217,.code np),(218,.code uZ),(242,.code jS),(244,.code yQ),(245,.code yi),(246,.code yq),(265,.code li),(266,.code qT),(267,.code xI),(268,.code rb),(269,.code rj),(270,.code rz),(271,.code yF),(272,.code FL),(273,.code BU),(274,.code Ln),(275,.code uY),(276,.code uI),(277,.code xX),(278,.code uf),(279,.code uj),(280,.code yZ),(281,.code uK),(282,.code lz),(283,.code Ca),(284,.code rE),(285,.code yf),(286,.code oj),(287,.code yI),(288,.code C7),(289,.code uG),(290,.code uh),(291,.code Lt),(292,.code cv),(293,.code rC),(294,.code xV),(295,.code yp),(296,.code BO),(297,.code dS),(298,.code nh),(299,.code rJ),(300,.code cg),(301,.code bp),(302,.code bV),(304,.code rm),(305,.code ng),(306,.code uC),(314,.code vb),(316,.code u9),(331,.code mD),(332,.code Lq),(333,.code lE),(334,.code yw),(335,.code C6),(336,.code yT),(337,.code p6),(338,.code uv),(339,.code C0),(340,.code uo),(341,.code C5),(342,.code BW),(343,.code oR),(344,.code om),(345,.code uL),(356,.code jf)]
noncomputable def tab:Tab:=fun f=>dn b5N f
def owL:List (Nat×List Nat):=[(163,[1000]),(164,[1000]),(169,[0,1000])]
def ow:dg:=fun f=>owg owL f
theorem b5W (f:Nat):ow f=owg owL f:=rfl
theorem b7A:owL=[(163,[1000]),(164,[1000]),(169,[0,1000])]:=rfl
attribute [go_sem] b5W b7A
theorem rG (cap:Nat): ∃n,kM aE 0 (bE (cJ (KX 162 aE) Oi n) Oi n aE.body (start [.lit (.slice none 0 cap)] []))=some (.lit (.slice none 0 0),[]):=⟨9,rfl⟩
theorem qN (ad:Addr) (cap:Nat):Call (KX 162 aE) Oi 162 [.lit (.slice (some ad) 0 cap)] []=some (.sl 0 0 0,[⟨2,false,[]⟩]):=by
 have h0: ∀(h:aw) (a:Addr),co h 2 (.lit (.slice (some a) 0 cap))=some (rws (⟨2,fun _=>[]⟩:En Unit) []):=fun _ _=>rfl
 have h1: ∀b (a:Addr),Ow b (.lit (.slice (some a) 0 cap))=true:=fun _ _=>rfl
 have hf:bc 0 16=true:=by decide
 rw [ab (af:=aE) (Ia _ _)]
 simp+decide only [aE,eU,fun k=>mk0 (⟨2,fun _=>[]⟩:En Unit) k,a0D,h0,h1,hf,go_sem,reduceIte,Nat.reduceAdd]
 rfl
end Go.AI.Fn
