/- The table. -/
import Derived.Test.YtdnkignjanfikaaGreatTc0
import Derived.Test.YtdnkignjanfikaaGreatTc1
import Derived.Test.YtdnkignjanfikaaGreatTc2
import Derived.Test.YtdnkignjanfikaaGreatAiEntX
set_option linter.unusedVariables false
set_option maxRecDepth 100000
namespace Go.AI.Fn
noncomputable def b3v:List (Nat×a7E):=[(7,.code a_w_FnExactVerifyCircuit),(33,.code uV),(34,.code vk),(36,.code uB),(46,.code uA),(47,.code AJ),(48,.code xS),(49,.code nP),(50,.code uK),(51,.code ve),(52,.code E9),(53,.code Ax),(54,.code xD),(55,.code nW),(56,.code uE),(57,.code CQ),(58,.code AK),(59,.code ya),(62,.code CZ),(63,.code AO),(68,.code a00),(71,.code ul),(72,.code HP),(73,.ext (ZB 73 bH 2)),(77,.code uq),(78,.code xz),(79,.code re),(81,.code mm),(83,.code nU),(86,.code xZ),(88,.code vo),(90,.code y9),(101,.code PX),(102,.code Ap),(105,.code uy),(106,.code xR),(108,.code xH),(112,.code nR),(113,.code pk),(114,.code HJ),(115,.code HE),(116,.code xr),(117,.code ur),(118,.code sL),(119,.code DT),(120,.code qA),(121,.code qU),(122,.code zS),(123,.code AA),(127,.code Dy),(128,.code l8),(131,.code AW),(132,.code zV),(133,.code ra),(137,.code uu),(139,.code uT),(140,.code A2),(142,.code D2),(144,.code vi),(145,.code Aw),(146,.code Az),(147,.code uO),(148,.code D8),(149,.code Dr),(150,.code zW),(151,.code AC),(152,.code Hq),(153,.code um),(154,.code Df),(155,.code zR),(156,.code Ac),(157,.code Hv),(158,.code uw),(159,.code CU),(164,.code Q6),(166,.code dS),(167,.code qK),(168,.code D5),(170,.code PW),(171,.code Q1),(172,.code sc),(173,.ext (a5v false)),(175,.code y6),(177,.code l7),(178,.code xX),(184,.code nV),(187,.code xJ),(188,.code zP),(191,.code vj),(192,.code Ah),(198,.code uJ),(199,.code y8),(200,.code uH),(201,.code Q2),(204,.code HC),(207,.code AD),(213,.code uX),(214,.code ut),(218,.code zY),(219,.code fY),(220,.code mr),(221,.code nQ),(222,.code Mr),(223,.code jW),(224,.code qz),(225,.code C5),(226,.code CT),(227,.code p5),(228,.code sO),(229,.code Ad),(230,.code DX),(231,.code Am),(232,.code DC),(233,.code AB),(234,.code Au),(235,.code xx),(236,.code dF),(237,.code rf),(238,.code cy),(239,.code oR),(240,.code dq),(241,.code nL),(242,.code uM),(243,.code Ds),(244,.code Eb),(245,.code DU),(247,.code fi),(248,.code uG),(250,.code xQ),(251,.code Aa),(252,.code uZ),(253,.code AN),(256,.code xm),(257,.code HA),(258,.code A0),(259,.code xl),(260,.code A6),(261,.code xW),(262,.code xV),(268,.code v6),(269,.code sQ),(270,.code AL),(271,.code uN),(272,.code uL),(273,.code xj),(274,.code DM),(275,.code vq),(276,.code xp),(277,.code E0),(278,.code uU),(279,.code y4),(283,.code eJ),(284,.code Ef),(285,.code oJ),(286,.code uo),(288,.code fO),(289,.code Ld),(290,.code vm),(293,.code sA),(297,.code DG),(298,.code zM),(299,.code A7),(300,.code Ai),(301,.code xP),(303,.code D4),(304,.code xG),(305,.code xg),(306,.code xY),(308,.code Lb),(309,.code Hn),(310,.code Dm),(313,.code vl),(315,.code HL),(317,.code zT),(318,.code zX),(321,.code xB),(322,.code sK),(323,.code AH),(324,.code xK),(325,.code qF),(326,.code CY),(327,.code Hu),(328,.code xu),(329,.code Dx),(330,.code s9),(331,.code y0),(332,.code ec),(333,.code cM),(334,.code dM),(335,.code gg),(336,.code vg),(337,.code D9),(338,.code AP),(341,.code Ak),(342,.code A4),(343,.code Ao),(344,.code As),(345,.code nS),(346,.code sZ),(348,.code qC),(349,.code j9),(350,.code eo),(351,.code jT),(354,.code sV),(359,.code Q0),(361,.code AQ),(362,.code Ab),(364,.code DE),(365,.code uW),(366,.code uS),(367,.code zN),(368,.code Ek),(369,.code zU),(370,.code AM),(371,.code HD),(372,.code Hp),(373,.code sg),(374,.code si),(375,.code sS),(376,.code iu),(386,.code nM),(387,.code fL)]
noncomputable def tab:Tab:=fun f=>dO b3v f
def owL:List (Nat×List Nat):=[(225,[0,1000]),(285,[3000])]
def ow:en:=fun f=>owg owL f
theorem b6w (f:Nat):ow f=owg owL f:=rfl
theorem c1O:owL=[(225,[0,1000]),(285,[3000])]:=rfl
attribute [go_sem] b6w c1O
theorem xL (cap:Nat): ∃n,kP bH 0 (di (fu (P4 73 bH) U2 n) U2 n bH.body (start [.lit (.slice none 0 cap)] []))=some (.lit (.slice none 0 0),[]):=⟨9,rfl⟩
theorem xE (ad:Addr) (cap:Nat):Call (P4 73 bH) U2 73 [.lit (.slice (some ad) 0 cap)] []=some (.sl 0 0 0,[⟨2,false,[]⟩]):=by
 have h0: ∀(h:aZ) (a:Addr),eu h 2 (.lit (.slice (some a) 0 cap))=some (rws (⟨2,fun _=>[]⟩:En Unit) []):=fun _ _=>rfl
 have h1: ∀b (a:Addr),Tf b (.lit (.slice (some a) 0 cap))=true:=fun _ _=>rfl
 have hf:cP 0 16=true:=by decide
 rw [aj (af:=bH) (MJ _ _)]
 simp+decide only [bH,jb,fun k=>mk0 (⟨2,fun _=>[]⟩:En Unit) k,a7W,h0,h1,hf,go_sem,reduceIte,Nat.reduceAdd]
 rfl
end Go.AI.Fn
