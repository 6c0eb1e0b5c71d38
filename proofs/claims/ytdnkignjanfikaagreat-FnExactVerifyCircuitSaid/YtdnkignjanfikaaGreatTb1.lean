/- Part. -/
import Derived.Test.YtdnkignjanfikaaGreatTc0
import Derived.Test.YtdnkignjanfikaaGreatTc1
import Derived.Test.YtdnkignjanfikaaGreatTc2
import Derived.Test.YtdnkignjanfikaaGreatAiEntX
set_option linter.unusedVariables false
set_option maxRecDepth 100000
namespace Go.AI.Fn
noncomputable def b4H:List (Nat×a5F):=[(7,.code a_w_FnExactVerifyCircuit),(33,.code ui),(34,.code uL),(36,.code uN),(46,.code uk),(47,.code zM),(48,.code wY),(49,.code nu),(50,.code uO),(51,.code uS),(52,.code DP),(53,.code zI),(54,.code wW),(55,.code ni),(56,.code uP),(57,.code DN),(58,.code Aj),(59,.code xv),(62,.code Cx),(63,.code zt),(68,.code XJ),(71,.code ug),(72,.code Hm),(73,.ext (ZH 73 bF 2)),(77,.code u6),(78,.code wX),(79,.code pQ),(81,.code mr),(83,.code nj),(86,.code xi),(88,.code tX),(90,.code xc),(101,.code Pl),(102,.code A0),(105,.code u5),(106,.code xh),(108,.code xr),(112,.code ng),(113,.code oJ),(114,.code GY),(115,.code H4),(116,.code wH),(117,.code tV),(118,.code rR),(119,.code CD),(120,.code qz),(121,.code qr),(122,.code zo),(123,.code An),(127,.code CG),(128,.code kU),(131,.code zT),(132,.code zD),(133,.code qj),(137,.code um),(139,.code ux),(140,.code A9),(142,.code D0),(144,.code ur),(145,.code As),(146,.code Ae),(147,.code u2),(148,.code DG),(149,.code Cp),(150,.code zW),(151,.code Au),(152,.code GV),(153,.code uh),(154,.code CM),(155,.code Ad),(156,.code Ap),(157,.code H8),(158,.code uH),(159,.code CK),(164,.code Pe),(166,.code dU),(167,.code pZ),(168,.code Du),(170,.code Pj),(171,.code Po),(172,.code rU),(173,.ext (a3P false)),(175,.code wR),(177,.code kS),(178,.code wJ),(184,.code na),(187,.code xd),(188,.code Ak),(191,.code u4),(192,.code A6),(198,.code tW),(199,.code wS),(200,.code ud),(201,.code Pk),(204,.code GX),(207,.code Ah),(213,.code uK),(214,.code u7),(218,.code zz),(219,.code fV),(220,.code mi),(221,.code nh),(222,.code K9),(223,.code jO),(224,.code pU),(225,.code Cc),(226,.code CT),(227,.code oH),(228,.code sD),(229,.code zZ),(230,.code De),(231,.code Ai),(232,.code Cq),(233,.code A7),(234,.code zJ),(235,.code wQ),(236,.code dF),(237,.code qC),(238,.code cA),(239,.code oF),(240,.code dp),(241,.code nl),(242,.code uA),(243,.code Dx),(244,.code Dc),(245,.code DB),(247,.code fc),(248,.code tU),(250,.code xu),(251,.code Af),(252,.code u3),(253,.code zx),(256,.code xy),(257,.code GW),(258,.code zm),(259,.code xx),(260,.code A5),(261,.code wI),(262,.code wO),(268,.code uJ),(269,.code su),(270,.code zy),(271,.code uf),(272,.code ut),(273,.code wV),(274,.code DI),(275,.code u9),(276,.code xF),(277,.code DJ),(278,.code uM),(279,.code xA),(283,.code ey),(284,.code CL),(285,.code oV),(286,.code ub),(288,.code fK),(289,.code LP),(290,.code uq),(293,.code rJ),(297,.code Dp),(298,.code zR),(299,.code zU),(300,.code zA),(301,.code wT),(303,.code DH),(304,.code xf),(305,.code wL),(306,.code wP),(308,.code Km),(309,.code Hl),(310,.code CX),(313,.code uE),(315,.code H0),(317,.code A3),(318,.code Aq),(321,.code xq),(322,.code rI),(323,.code zL),(324,.code wG),(325,.code qy),(326,.code CQ),(327,.code Hc),(328,.code xC),(329,.code Dm),(330,.code rN),(331,.code xI),(332,.code dZ),(333,.code cN),(334,.code dN),(335,.code ga),(336,.code uw),(337,.code DK),(338,.code Ac),(341,.code zP),(342,.code zO),(343,.code zS),(344,.code zC),(345,.code nr),(346,.code sc),(348,.code pY),(349,.code jc),(350,.code ee),(351,.code jK),(354,.code rH),(359,.code Pa),(361,.code zw),(362,.code Am),(364,.code CJ),(365,.code ue),(366,.code uo),(367,.code zG),(368,.code DM),(369,.code zX),(370,.code A2),(371,.code H9),(372,.code GQ),(373,.code sg),(374,.code sa),(375,.code sf),(376,.code il),(386,.code nf),(387,.code fO)]
noncomputable def tab:Tab:=fun f=>dP b4H f
def owL:List (Nat×List Nat):=[(225,[0,1000]),(285,[3000])]
def ow:ec:=fun f=>owg owL f
theorem b5r (f:Nat):ow f=owg owL f:=rfl
theorem c6h:owL=[(225,[0,1000]),(285,[3000])]:=rfl
attribute [go_sem] b5r c6h
theorem xE (cap:Nat): ∃n,kK bF 0 (dh (fg (OA 73 bF) QT n) QT n bF.body (start [.lit (.slice none 0 cap)] []))=some (.lit (.slice none 0 0),[]):=⟨9,rfl⟩
theorem xw (ad:Addr) (cap:Nat):Call (OA 73 bF) QT 73 [.lit (.slice (some ad) 0 cap)] []=some (.sl 0 0 0,[⟨2,false,[]⟩]):=by
 have h0: ∀(h:b8) (a:Addr),ed h 2 (.lit (.slice (some a) 0 cap))=some (rws (⟨2,fun _=>[]⟩:En Unit) []):=fun _ _=>rfl
 have h1: ∀b (a:Addr),HJ b (.lit (.slice (some a) 0 cap))=true:=fun _ _=>rfl
 have hf:cP 0 16=true:=by decide
 rw [aj (af:=bF) (Mi _ _)]
 simp+decide only [bF,j5,fun k=>mk0 (⟨2,fun _=>[]⟩:En Unit) k,a7N,h0,h1,hf,go_sem,reduceIte,Nat.reduceAdd]
 rfl
end Go.AI.Fn
