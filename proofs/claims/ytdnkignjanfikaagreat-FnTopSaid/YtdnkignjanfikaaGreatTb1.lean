/- Part. -/
import Derived.Test.YtdnkignjanfikaaGreatTc0
import Derived.Test.YtdnkignjanfikaaGreatTc1
import Derived.Test.YtdnkignjanfikaaGreatAiEntX
set_option linter.unusedVariables false
set_option maxRecDepth 100000
namespace Go.AI.Fn
noncomputable def b2n:List (Nat×Sw):=[(3,.code a_w_FnTop),(11,.code zl),(12,.code EL),(13,.code VZ),(14,.code xr),(15,.code ED),(16,.code sw),(17,.code zJ),(18,.code uY),(19,.code xv),(20,.code tY),(21,.code xx),(22,.code xC),(23,.code zg),(24,.code vS),(33,.code xA),(36,.code xb),(63,.code BL),(66,.code xl),(67,.code pM),(68,.code Xn),(69,.code ot),(70,.code DI),(71,.code wW),(72,.code Ho),(73,.ext (Ym 73 bJ 2)),(74,.code zk),(75,.code tS),(76,.code BJ),(77,.code wZ),(78,.code zL),(79,.code u4),(80,.code tD),(81,.code oF),(82,.code E5),(83,.code pT),(84,.code od),(85,.code tC),(86,.code zC),(87,.code xc),(88,.code xm),(89,.code xn),(90,.code z8),(91,.code oE),(92,.code qf),(93,.code oM),(94,.code qw),(96,.code E8),(97,.code DA),(98,.code BP),(99,.code C7),(101,.code PI),(102,.code Be),(110,.code Dy),(112,.code qy),(113,.code rT),(115,.code Hw),(117,.code xB),(118,.code vR),(119,.code DT),(120,.code tN),(121,.code u2),(122,.code Bp),(125,.code Dx),(126,.code BN),(127,.code E0),(128,.code na),(131,.code Bz),(132,.code C5),(133,.code tK),(164,.code Q2),(165,.code sk),(166,.code eP),(167,.code tZ),(168,.code Ec),(169,.code vi),(170,.code PN),(171,.code Q0),(172,.code vQ),(173,.ext (a3E false)),(174,.code sh),(175,.code zm),(176,.code qa),(177,.code nj),(178,.code zt),(179,.code tO),(180,.code nr),(181,.code lK),(182,.code ng),(183,.code ku),(184,.code pZ),(185,.code tJ),(186,.code pX),(187,.code zz),(188,.code Bo),(189,.code EO),(190,.code tX),(191,.code xq),(192,.code C4),(194,.code E4),(195,.code zn),(196,.code PP),(197,.code ET),(198,.code wY),(199,.code zx),(200,.code xp),(201,.code PF),(213,.code xh),(218,.code BO),(219,.code hS),(220,.code oJ),(221,.code pU),(222,.code L9),(223,.code lJ),(224,.code tF),(225,.code Dj),(226,.code Eh),(227,.code rX),(228,.code vj),(236,.code ed),(237,.code tB),(238,.code cI),(239,.code rU),(240,.code dP),(241,.code pY),(243,.code Ei),(244,.code Ep),(245,.code Es),(247,.code g9),(248,.code wX),(249,.code Bq),(283,.code fE),(284,.code Dw),(285,.code rI),(286,.code xu),(288,.code gU),(289,.code Mt),(290,.code xi),(291,.code iJ),(292,.code Bh),(293,.code vq),(294,.code tP),(295,.code ni),(296,.code zI),(297,.code DR),(298,.code BQ),(299,.code Bl),(300,.code BM),(301,.code zF),(302,.code tT),(303,.code EN),(304,.code zA),(305,.code zs),(306,.code zf),(307,.code DB),(308,.code Mo),(309,.code Hq),(321,.code zK),(322,.code vv),(323,.code Bd),(324,.code zD),(325,.code tI),(326,.code Eg),(327,.code Hn),(328,.code zB),(332,.code eZ),(333,.code cY),(334,.code eD),(335,.code i7),(344,.code BG),(345,.code pV),(346,.code uU),(348,.code tU),(349,.code kq),(350,.code fx),(351,.code lM),(352,.code BK),(353,.code HA),(354,.code vk),(355,.code qd),(356,.code ze),(357,.code rK),(358,.code DV),(359,.code PH),(365,.code xw),(366,.code xD),(367,.code BI),(368,.code DH),(369,.code C6),(370,.code BY),(371,.code HM),(376,.code jk),(386,.code qh),(387,.code gX),(388,.code Hz),(389,.code xy)]
noncomputable def tab:Tab:=fun f=>eH b2n f
def owL:List (Nat×List Nat):=[(225,[0,1000]),(285,[3000]),(291,[1000]),(355,[1000])]
def ow:ff:=fun f=>owg owL f
theorem b4b (f:Nat):ow f=owg owL f:=rfl
theorem c1o:owL=[(225,[0,1000]),(285,[3000]),(291,[1000]),(355,[1000])]:=rfl
attribute [go_sem] b4b c1o
theorem zw (cap:Nat): ∃n,mP bJ 0 (dE (gj (P5 73 bJ) QU n) QU n bJ.body (start [.lit (.slice none 0 cap)] []))=some (.lit (.slice none 0 0),[]):=⟨9,rfl⟩
theorem zM (ad:Addr) (cap:Nat):Call (P5 73 bJ) QU 73 [.lit (.slice (some ad) 0 cap)] []=some (.sl 0 0 0,[⟨2,false,[]⟩]):=by
 have h0: ∀(h:ba) (a:Addr),fm h 2 (.lit (.slice (some a) 0 cap))=some (rws (⟨2,fun _=>[]⟩:En Unit) []):=fun _ _=>rfl
 have h1: ∀b (a:Addr),OJ b (.lit (.slice (some a) 0 cap))=true:=fun _ _=>rfl
 have hf:bj 0 16=true:=by decide
 rw [ak (af:=bJ) (MF _ _)]
 simp+decide only [bJ,kA,fun k=>mk0 (⟨2,fun _=>[]⟩:En Unit) k,a5K,h0,h1,hf,go_sem,reduceIte,Nat.reduceAdd]
 rfl
end Go.AI.Fn
