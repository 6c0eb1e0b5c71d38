/- Part. -/
import Derived.Test.YtdnkignjanfikaaGreatTc0
import Derived.Test.YtdnkignjanfikaaGreatTc1
import Derived.Test.YtdnkignjanfikaaGreatAiEntX
set_option linter.unusedVariables false
set_option maxRecDepth 100000
namespace Go.AI.Fn
noncomputable def b4z:List (Nat×RL):=[(3,.code a_w_FnTop),(11,.code zD),(12,.code Ed),(13,.code WE),(14,.code wZ),(15,.code Ei),(16,.code rJ),(17,.code zw),(18,.code uZ),(19,.code xk),(20,.code tH),(21,.code xv),(22,.code xr),(23,.code zr),(24,.code v7),(33,.code xp),(36,.code xE),(63,.code Be),(66,.code xw),(67,.code pM),(68,.code Xf),(69,.code oo),(70,.code Et),(71,.code xj),(72,.code HL),(73,.ext (WT 73 bK 2)),(74,.code zh),(75,.code u4),(76,.code BE),(77,.code xn),(78,.code zd),(79,.code tX),(80,.code tU),(81,.code oS),(82,.code Es),(83,.code pK),(84,.code oK),(85,.code tE),(86,.code zm),(87,.code xf),(88,.code xx),(89,.code xa),(90,.code zf),(91,.code oC),(92,.code pX),(93,.code oJ),(94,.code qv),(96,.code Ef),(97,.code Eh),(98,.code BH),(99,.code BM),(101,.code PM),(102,.code BX),(110,.code DT),(112,.code pP),(113,.code rT),(115,.code HQ),(117,.code xd),(118,.code vh),(119,.code DY),(120,.code tG),(121,.code tF),(122,.code BW),(125,.code E0),(126,.code C7),(127,.code EB),(128,.code nk),(131,.code BY),(132,.code By),(133,.code tQ),(164,.code Q0),(165,.code rQ),(166,.code eP),(167,.code tV),(168,.code EN),(169,.code v6),(170,.code PL),(171,.code PP),(172,.code vd),(173,.ext (a41 false)),(174,.code rM),(175,.code zA),(176,.code qy),(177,.code nh),(178,.code zB),(179,.code u3),(180,.code nl),(181,.code lN),(182,.code nj),(183,.code kn),(184,.code qr),(185,.code tC),(186,.code qa),(187,.code z7),(188,.code BG),(189,.code DO),(190,.code tD),(191,.code xh),(192,.code BU),(194,.code DI),(195,.code zk),(196,.code PA),(197,.code EP),(198,.code xF),(199,.code zM),(200,.code xm),(201,.code PT),(213,.code xi),(218,.code C0),(219,.code hO),(220,.code oN),(221,.code qw),(222,.code L6),(223,.code lJ),(224,.code tN),(225,.code CM),(226,.code DK),(227,.code sn),(228,.code vm),(236,.code dY),(237,.code tS),(238,.code cI),(239,.code so),(240,.code dL),(241,.code qd),(243,.code DC),(244,.code Ee),(245,.code EK),(247,.code fT),(248,.code xA),(249,.code Bx),(283,.code fF),(284,.code DJ),(285,.code si),(286,.code xt),(288,.code gX),(289,.code KU),(290,.code xl),(291,.code iQ),(292,.code BC),(293,.code vF),(294,.code tP),(295,.code na),(296,.code zG),(297,.code ER),(298,.code Ba),(299,.code BT),(300,.code C4),(301,.code zy),(302,.code tT),(303,.code DN),(304,.code zC),(305,.code z8),(306,.code zx),(307,.code ET),(308,.code Lv),(309,.code HD),(321,.code zq),(322,.code vO),(323,.code Bm),(324,.code zF),(325,.code tB),(326,.code Eg),(327,.code Hp),(328,.code zs),(332,.code eX),(333,.code cY),(334,.code eD),(335,.code i8),(344,.code Bo),(345,.code pT),(346,.code vE),(348,.code tI),(349,.code ko),(350,.code ft),(351,.code lO),(352,.code Bw),(353,.code HO),(354,.code uV),(355,.code pY),(356,.code ze),(357,.code rU),(358,.code Dy),(359,.code PR),(365,.code wY),(366,.code xy),(367,.code Bc),(368,.code Dw),(369,.code BV),(370,.code BK),(371,.code Hn),(376,.code jj),(386,.code q9),(387,.code gS),(388,.code Hv),(389,.code xB)]
noncomputable def tab:Tab:=fun f=>eH b4z f
def owL:List (Nat×List Nat):=[(225,[0,1000]),(285,[3000]),(291,[1000]),(355,[1000])]
def ow:fe:=fun f=>owg owL f
theorem b0R (f:Nat):ow f=owg owL f:=rfl
theorem c2H:owL=[(225,[0,1000]),(285,[3000]),(291,[1000]),(355,[1000])]:=rfl
attribute [go_sem] b0R c2H
theorem zo (cap:Nat): ∃n,mX bK 0 (dE (gj (Pw 73 bK) Sa n) Sa n bK.body (start [.lit (.slice none 0 cap)] []))=some (.lit (.slice none 0 0),[]):=⟨9,rfl⟩
theorem zp (ad:Addr) (cap:Nat):Call (Pw 73 bK) Sa 73 [.lit (.slice (some ad) 0 cap)] []=some (.sl 0 0 0,[⟨2,false,[]⟩]):=by
 have h0: ∀(h:ba) (a:Addr),fm h 2 (.lit (.slice (some a) 0 cap))=some (rws (⟨2,fun _=>[]⟩:En Unit) []):=fun _ _=>rfl
 have h1: ∀b (a:Addr),OT b (.lit (.slice (some a) 0 cap))=true:=fun _ _=>rfl
 have hf:bj 0 16=true:=by decide
 rw [ak (af:=bK) (Ny _ _)]
 simp+decide only [bK,kq,fun k=>mk0 (⟨2,fun _=>[]⟩:En Unit) k,a6n,h0,h1,hf,go_sem,reduceIte,Nat.reduceAdd]
 rfl
end Go.AI.Fn
