/- The table. -/
import Derived.Test.YtdmhkkcihecndaaGreatTc0
import Derived.Test.YtdmhkkcihecndaaGreatTc1
set_option linter.unusedVariables false
set_option maxRecDepth 100000
namespace Go.AI.Fn
noncomputable def b9A:List (Nat×b3F):=[(6,.code a_w_FnExactVerifyBytes),(25,.code qy),(26,.code pJ),(28,.code pT),(29,.code sI),(31,.code tk),(33,.code tg),(34,.code qJ),(35,.code z7),(37,.code tf),(39,.code tj),(40,.code yZ),(42,.code sB),(43,.code n8),(44,.code vD),(45,.code mE),(46,.code wh),(62,.code WR),(69,.code DA),(74,.code to),(75,.code mJ),(76,.code jW),(79,.code pZ),(80,.code sR),(81,.code tr),(87,.code MU),(88,.code ve),(90,.code qf),(91,.code E0),(92,.code kZ),(94,.code tl),(95,.code zQ),(96,.code DI),(97,.code tu),(98,.code pR),(99,.code ot),(100,.code zn),(101,.code mQ),(102,.code mM),(103,.code vF),(105,.code vK),(106,.code tE),(109,.code yN),(110,.code yQ),(111,.code vd),(112,.code qE),(113,.code sG),(115,.code DT),(117,.code zU),(118,.code qh),(119,.code tv),(120,.code sV),(122,.code DE),(124,.code yW),(125,.code w9),(126,.code qC),(136,.code sY),(137,.code tn),(148,.code pB),(149,.code vt),(155,.code qN),(159,.code tC),(162,.ext (WJ 162 aB 2)),(166,.code jV),(167,.code gB),(169,.code yc),(170,.code zR),(171,.code lc),(173,.code E3),(175,.code vW),(179,.code qr),(180,.code qA),(182,.code qd),(183,.code N7),(184,.code co),(185,.code mK),(186,.code v8),(187,.code dA),(188,.code jl),(189,.code IF),(190,.code mR),(191,.code o6),(192,.code MW),(193,.code vH),(194,.code jU),(195,.code o7),(196,.code w7),(197,.code zp),(198,.code vp),(199,.code zk),(200,.code uW),(201,.code vf),(202,.code sW),(203,.code bY),(204,.code mW),(205,.code aY),(206,.code kU),(207,.code bQ),(208,.code k9),(210,.code vA),(213,.code pO),(214,.code tx),(215,.code vZ),(216,.code pP),(217,.code oy),(218,.code wa),(219,.code qM),(220,.code E5),(221,.code sZ),(222,.code vQ),(225,.code uZ),(226,.code vh),(227,.code jT),(228,.code vB),(231,.code mS),(232,.code mD),(233,.code oi),(234,.code vS),(235,.code pH),(236,.code iA),(237,.code gG),(238,.code iz),(239,.code fL),(244,.code zT),(245,.code zS),(246,.code zD),(247,.code wg),(248,.code pQ),(255,.code vk),(256,.code mH),(257,.code iy),(258,.code tm),(266,.code sD),(267,.code zs),(268,.code tB),(269,.code sQ),(270,.code ta),(272,.code IT),(273,.code DN),(274,.code MY),(275,.code vv),(278,.code vy),(279,.code vY),(280,.code zA),(282,.code n6),(284,.code sS),(285,.code yI),(286,.code pI),(288,.code DB),(290,.code vV),(291,.code N0),(292,.code cK),(293,.code sJ),(294,.code zV),(295,.code zg),(296,.code DM),(297,.code eP),(298,.code oh),(299,.code sC),(300,.code cy),(301,.code bk),(302,.code cj),(304,.code sX),(305,.code oe),(306,.code vM),(308,.code pV),(310,.code cT),(311,.code pN),(312,.code qF),(313,.code wi),(314,.code uV),(315,.code o3),(316,.code uX),(317,.code sE),(319,.code vx),(320,.code vn),(321,.code mL),(322,.code iD),(323,.code tc),(327,.code mP),(331,.code oo),(332,.code N6),(333,.code n9),(334,.code zt),(336,.code zY),(338,.code vq),(340,.code vU),(341,.code DH),(342,.code DV),(343,.code pM),(344,.code pK),(345,.code uY),(348,.code dC),(349,.code gH),(350,.code Jl),(351,.code ka),(353,.code sP),(354,.code ke),(356,.code k8),(357,.code mO)]
noncomputable def tab:Tab:=fun f=>dR b9A f
def owL:List (Nat×List Nat):=[(169,[0,1000])]
def ow:dI:=fun f=>owg owL f
theorem b99 (f:Nat):ow f=owg owL f:=rfl
theorem c0S:owL=[(169,[0,1000])]:=rfl
attribute [go_sem] b99 c0S
theorem tw (cap:Nat): ∃n,lJ aB 0 (bI (cW (MQ 162 aB) Oa n) Oa n aB.body (start [.lit (.slice none 0 cap)] []))=some (.lit (.slice none 0 0),[]):=⟨9,rfl⟩
theorem sL (ad:Addr) (cap:Nat):Call (MQ 162 aB) Oa 162 [.lit (.slice (some ad) 0 cap)] []=some (.sl 0 0 0,[⟨2,false,[]⟩]):=by
 have h0: ∀(h:al) (a:Addr),cA h 2 (.lit (.slice (some a) 0 cap))=some (rws (⟨2,fun _=>[]⟩:En Unit) []):=fun _ _=>rfl
 have h1: ∀b (a:Addr),Ev b (.lit (.slice (some a) 0 cap))=true:=fun _ _=>rfl
 have hf:bE 0 16=true:=by decide
 rw [ab (af:=aB) (Kl _ _)]
 simp+decide only [aB,fM,fun k=>mk0 (⟨2,fun _=>[]⟩:En Unit) k,a3Q,h0,h1,hf,go_sem,reduceIte,Nat.reduceAdd]
 rfl
end Go.AI.Fn
