/- The table. -/
import Derived.Test.YtdnkignjanfikaaGreatTc0
import Derived.Test.YtdnkignjanfikaaGreatTc1
import Derived.Test.YtdnkignjanfikaaGreatAiEntX
set_option linter.unusedVariables false
set_option maxRecDepth 100000
namespace Go.AI.Fn
noncomputable def b0j:List (Nat×ZP):=[(5,.code a_w_FnUnsatisfied),(16,.code lR),(22,.code rH),(23,.code uv),(24,.code oG),(25,.code rC),(26,.code uj),(35,.code oZ),(36,.code rA),(37,.code mU),(38,.code rD),(39,.code ug),(40,.code rv),(41,.code De),(66,.code re),(68,.code Tj),(71,.code rq),(72,.code Dc),(73,.ext (UC 73 aM 2)),(75,.code nm),(76,.code wB),(77,.code rf),(78,.code ua),(79,.code nh),(80,.code nl),(81,.code jm),(82,.code A5),(83,.code ku),(84,.code jc),(86,.code uy),(88,.code rk),(91,.code j6),(92,.code ki),(93,.code jn),(94,.code k9),(96,.code zi),(97,.code zB),(98,.code xf),(99,.code xr),(101,.code M5),(102,.code wX),(110,.code zL),(112,.code kj),(115,.code D9),(119,.code A8),(124,.code Ae),(125,.code As),(126,.code xw),(127,.code Ao),(128,.code iu),(129,.code kh),(130,.code ko),(131,.code wA),(132,.code wL),(133,.code n7),(134,.code na),(135,.code km),(139,.code rF),(164,.code Ml),(165,.code lV),(166,.code cp),(167,.code nk),(168,.code Ah),(169,.code p9),(170,.code M9),(171,.code Ma),(172,.code oU),(173,.ext (TZ false)),(174,.code lD),(175,.code uw),(177,.code iw),(178,.code ud),(185,.code n8),(186,.code jY),(187,.code uH),(188,.code xx),(189,.code A2),(190,.code nj),(191,.code rm),(192,.code wJ),(194,.code zG),(195,.code uA),(196,.code Mi),(197,.code zl),(198,.code qY),(199,.code uu),(200,.code rB),(201,.code M1),(213,.code rG),(218,.code wQ),(221,.code ke),(223,.code gy),(224,.code nr),(225,.code zd),(226,.code zJ),(227,.code lG),(229,.code wY),(242,.code rp),(243,.code Aa),(244,.code A3),(245,.code zR),(246,.code js),(247,.code cP),(248,.code rb),(249,.code xa),(260,.code xg),(283,.code cH),(284,.code zI),(285,.code lO),(286,.code rz),(288,.code dp),(289,.code Hu),(290,.code rK),(291,.code dP),(292,.code wz),(293,.code oJ),(294,.code ni),(297,.code An),(299,.code wM),(300,.code xz),(302,.code mY),(303,.code zn),(304,.code uG),(305,.code uE),(306,.code uh),(307,.code zm),(308,.code Gj),(309,.code Da),(321,.code uc),(322,.code p8),(323,.code wV),(324,.code uF),(325,.code np),(328,.code uq),(335,.code dC),(344,.code xi),(345,.code jX),(346,.code oB),(348,.code mW),(349,.code fu),(350,.code cA),(351,.code gt),(352,.code wO),(353,.code Dq),(354,.code oy),(355,.code kf),(356,.code u6),(357,.code lW),(358,.code A0),(359,.code M0),(365,.code rL),(366,.code rI),(367,.code xy),(368,.code Aq),(369,.code wS),(376,.code ey),(386,.code kn),(387,.code du),(388,.code Du),(389,.code ru)]
noncomputable def tab:Tab:=fun f=>cj b0j f
def owL:List (Nat×List Nat):=[(225,[0,1000]),(285,[3000]),(291,[1000]),(355,[1000])]
def ow:cy:=fun f=>owg owL f
theorem b0C (f:Nat):ow f=owg owL f:=rfl
theorem b9J:owL=[(225,[0,1000]),(285,[3000]),(291,[1000]),(355,[1000])]:=rfl
attribute [go_sem] b0C b9J
theorem uo (cap:Nat): ∃n,ik aM 0 (bL (cS (IX 73 aM) K5 n) K5 n aM.body (start [.lit (.slice none 0 cap)] []))=some (.lit (.slice none 0 0),[]):=⟨9,rfl⟩
theorem uC (ad:Addr) (cap:Nat):Call (IX 73 aM) K5 73 [.lit (.slice (some ad) 0 cap)] []=some (.sl 0 0 0,[⟨2,false,[]⟩]):=by
 have h0: ∀(h:au) (a:Addr),cx h 2 (.lit (.slice (some a) 0 cap))=some (rws (⟨2,fun _=>[]⟩:En Unit) []):=fun _ _=>rfl
 have h1: ∀b (a:Addr),Eb b (.lit (.slice (some a) 0 cap))=true:=fun _ _=>rfl
 have hf:aB 0 16=true:=by decide
 rw [ag (af:=aM) (K9 _ _)]
 simp+decide only [aM,fC,fun k=>mk0 (⟨2,fun _=>[]⟩:En Unit) k,a1v,h0,h1,hf,go_sem,reduceIte,Nat.reduceAdd]
 rfl
end Go.AI.Fn
