/- Part. -/
import Derived.Test.YtdnkignjanfikaaGreatTc0
import Derived.Test.YtdnkignjanfikaaGreatTc1
import Derived.Test.YtdnkignjanfikaaGreatTc2
import Derived.Test.YtdnkignjanfikaaGreatAiEntX
set_option linter.unusedVariables false
set_option maxRecDepth 100000
namespace Go.AI.Fn
noncomputable def b51:List (Nat×a5a):=[(7,.code a_w_FnExactVerifyCircuit),(33,.code u3),(34,.code uS),(36,.code uf),(46,.code ua),(47,.code zY),(48,.code xn),(49,.code nv),(50,.code u2),(51,.code uE),(52,.code Ct),(53,.code zN),(54,.code xk),(55,.code n8),(56,.code uL),(57,.code Dg),(58,.code A1),(59,.code wS),(62,.code DO),(63,.code Aq),(68,.code Xa),(71,.code uO),(72,.code H9),(73,.ext (WF 73 bF 2)),(77,.code ul),(78,.code xq),(79,.code qy),(81,.code mg),(83,.code na),(86,.code wZ),(88,.code u9),(90,.code xg),(101,.code Pe),(102,.code zP),(105,.code tU),(106,.code wJ),(108,.code xr),(112,.code nw),(113,.code oC),(114,.code GQ),(115,.code Hl),(116,.code wM),(117,.code uH),(118,.code sg),(119,.code Dw),(120,.code pS),(121,.code q9),(122,.code Ab),(123,.code A4),(127,.code Dx),(128,.code kU),(131,.code zz),(132,.code zl),(133,.code qd),(137,.code ur),(139,.code uw),(140,.code Ag),(142,.code Cu),(144,.code uJ),(145,.code Ap),(146,.code zm),(147,.code uo),(148,.code DH),(149,.code CF),(150,.code Aj),(151,.code zJ),(152,.code GX),(153,.code ug),(154,.code De),(155,.code A5),(156,.code zw),(157,.code GZ),(158,.code uA),(159,.code CB),(164,.code Po),(166,.code dU),(167,.code qh),(168,.code Da),(170,.code Pk),(171,.code Pr),(172,.code rU),(173,.ext (a5Y false)),(175,.code xy),(177,.code kV),(178,.code wP),(184,.code ni),(187,.code wY),(188,.code zZ),(191,.code tW),(192,.code Ah),(198,.code uD),(199,.code wQ),(200,.code uM),(201,.code Pn),(204,.code H7),(207,.code zL),(213,.code uP),(214,.code um),(218,.code Au),(219,.code fY),(220,.code m1),(221,.code nf),(222,.code K8),(223,.code jN),(224,.code qa),(225,.code BJ),(226,.code Dn),(227,.code oJ),(228,.code sD),(229,.code zy),(230,.code Dl),(231,.code Ac),(232,.code D0),(233,.code zt),(234,.code zT),(235,.code xD),(236,.code dF),(237,.code pR),(238,.code cx),(239,.code oT),(240,.code dp),(241,.code nk),(242,.code tZ),(243,.code DG),(244,.code DI),(245,.code Dr),(247,.code fa),(248,.code uj),(250,.code xf),(251,.code zx),(252,.code uC),(253,.code zQ),(256,.code wT),(257,.code Hg),(258,.code zS),(259,.code xt),(260,.code zs),(261,.code xG),(262,.code xb),(268,.code ux),(269,.code sx),(270,.code A0),(271,.code uy),(272,.code uu),(273,.code xl),(274,.code Cp),(275,.code uz),(276,.code wX),(277,.code Dc),(278,.code uK),(279,.code wI),(283,.code ey),(284,.code Cz),(285,.code ov),(286,.code uN),(288,.code fK),(289,.code Kr),(290,.code uv),(293,.code sc),(297,.code Dh),(298,.code zR),(299,.code zO),(300,.code zU),(301,.code wR),(303,.code CU),(304,.code wN),(305,.code xu),(306,.code wL),(308,.code Kl),(309,.code Hc),(310,.code DC),(313,.code uB),(315,.code Hn),(317,.code zV),(318,.code zF),(321,.code wK),(322,.code sC),(323,.code Ar),(324,.code xj),(325,.code qj),(326,.code Cw),(327,.code GW),(328,.code wF),(329,.code CV),(330,.code rN),(331,.code wU),(332,.code dZ),(333,.code cN),(334,.code dN),(335,.code ge),(336,.code tY),(337,.code CW),(338,.code Ae),(341,.code As),(342,.code A6),(343,.code zW),(344,.code zC),(345,.code nl),(346,.code sn),(348,.code qr),(349,.code jb),(350,.code en),(351,.code jM),(354,.code rG),(359,.code Pm),(361,.code zp),(362,.code zG),(364,.code Cq),(365,.code tV),(366,.code ub),(367,.code Aa),(368,.code D2),(369,.code zM),(370,.code A8),(371,.code H3),(372,.code He),(373,.code rF),(374,.code rM),(375,.code sk),(376,.code im),(386,.code nr),(387,.code fL)]
noncomputable def tab:Tab:=fun f=>dP b51 f
def owL:List (Nat×List Nat):=[(225,[0,1000]),(285,[3000])]
def ow:ec:=fun f=>owg owL f
theorem b3H (f:Nat):ow f=owg owL f:=rfl
theorem c60:owL=[(225,[0,1000]),(285,[3000])]:=rfl
attribute [go_sem] b3H c60
theorem xC (cap:Nat): ∃n,kG bF 0 (dh (fh (Oq 73 bF) SW n) SW n bF.body (start [.lit (.slice none 0 cap)] []))=some (.lit (.slice none 0 0),[]):=⟨9,rfl⟩
theorem xw (ad:Addr) (cap:Nat):Call (Oq 73 bF) SW 73 [.lit (.slice (some ad) 0 cap)] []=some (.sl 0 0 0,[⟨2,false,[]⟩]):=by
 have h0: ∀(h:b8) (a:Addr),ed h 2 (.lit (.slice (some a) 0 cap))=some (rws (⟨2,fun _=>[]⟩:En Unit) []):=fun _ _=>rfl
 have h1: ∀b (a:Addr),Ih b (.lit (.slice (some a) 0 cap))=true:=fun _ _=>rfl
 have hf:cP 0 16=true:=by decide
 rw [aj (af:=bF) (M7 _ _)]
 simp+decide only [bF,j1,fun k=>mk0 (⟨2,fun _=>[]⟩:En Unit) k,a6Q,h0,h1,hf,go_sem,reduceIte,Nat.reduceAdd]
 rfl
end Go.AI.Fn
