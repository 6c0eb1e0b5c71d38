/- The table. -/
import Derived.Test.YtdmhkkcihecndaaGreatTb0
set_option linter.unusedVariables false
set_option maxRecDepth 100000
namespace Go.AI.Fn
noncomputable def b5R:List (Nat×a84):=[(5,.code a_w_FnExactVerify),(25,.code nV),(26,.code nT),(28,.code nE),(29,.code rF),(30,.code ut),(31,.code rv),(32,.code yp),(33,.code rB),(34,.code nF),(35,.code y9),(36,.code uk),(37,.code rH),(38,.code xT),(39,.code rf),(40,.code yb),(41,.code uo),(42,.code qO),(62,.code SE),(69,.code Bd),(74,.code qF),(75,.code kJ),(76,.code it),(79,.code nG),(80,.code rL),(81,.code qP),(87,.code K2),(88,.code tV),(90,.code nU),(91,.code Bw),(92,.code ji),(94,.code rk),(95,.code yk),(96,.code Be),(97,.code qU),(98,.code nJ),(99,.code lR),(100,.code xm),(101,.code kC),(102,.code kB),(103,.code uh),(105,.code uA),(106,.code rO),(107,.code tW),(108,.code oq),(109,.code yw),(110,.code xi),(111,.code tT),(112,.code o4),(113,.code rj),(114,.code uI),(115,.code BF),(116,.code ou),(117,.code xA),(118,.code oe),(119,.code rC),(120,.code rM),(121,.code ux),(122,.code BC),(123,.code oc),(124,.code xI),(136,.code rA),(137,.code qA),(148,.code o2),(149,.code uw),(155,.code og),(159,.code qy),(162,.ext (SQ 162 aw 2)),(166,.code iz),(167,.code fB),(169,.code vL),(170,.code y5),(171,.code jy),(173,.code Bl),(175,.code uF),(179,.code o9),(180,.code oj),(182,.code nI),(183,.code JU),(184,.code bZ),(185,.code kG),(186,.code tJ),(187,.code dc),(188,.code gS),(189,.code F6),(190,.code kD),(191,.code m0),(192,.code JT),(193,.code tP),(194,.code iA),(195,.code lS),(196,.code u4),(197,.code xw),(198,.code uE),(199,.code yj),(200,.code uD),(201,.code tN),(202,.code rz),(203,.code bP),(204,.code kH),(205,.code aT),(206,.code jj),(207,.code bK),(208,.code iB),(210,.code u2),(211,.code o8),(212,.code qT),(213,.code ov),(214,.code qV),(215,.code uc),(216,.code ot),(217,.code lB),(218,.code uB),(219,.code oo),(220,.code Bz),(221,.code rN),(222,.code uf),(223,.code o6),(224,.code ra),(225,.code tZ),(226,.code tY),(227,.code ix),(228,.code uC),(229,.code nY),(230,.code rI),(244,.code xY),(245,.code xl),(246,.code xN),(247,.code tL),(248,.code om),(255,.code tI),(256,.code kA),(257,.code gg),(258,.code qK),(266,.code rK),(267,.code xQ),(268,.code qM),(269,.code rG),(270,.code re),(272,.code Fv),(273,.code Bk),(274,.code JQ),(275,.code tO),(278,.code u7),(279,.code u9),(280,.code xq),(282,.code kL),(284,.code rE),(285,.code xE),(286,.code nM),(288,.code Bi),(290,.code ue),(291,.code K0),(292,.code cv),(293,.code rq),(294,.code yh),(295,.code xC),(296,.code By),(297,.code dV),(298,.code lV),(299,.code qW),(300,.code ci),(301,.code bg),(302,.code bV),(304,.code qJ),(305,.code lU),(306,.code uz),(307,.code uG),(308,.code nH),(309,.code tR),(310,.code cI),(311,.code nP),(312,.code nS),(313,.code ua),(314,.code tM),(315,.code lI),(316,.code ul),(317,.code rm),(318,.code tK),(327,.code kq),(331,.code lH),(332,.code JS),(333,.code kI),(334,.code yn),(336,.code xp),(338,.code u5),(340,.code uj),(341,.code Bj),(342,.code Bp),(343,.code od),(344,.code o7),(345,.code uJ),(346,.code lC),(347,.code ma),(348,.code dj),(349,.code fy),(350,.code F4),(351,.code iE),(352,.code lX),(353,.code qE),(354,.code iu),(356,.code iy),(357,.code kw)]
noncomputable def tab:Tab:=fun f=>dv b5R f
def owL:List (Nat×List Nat):=[(169,[0,1000])]
def ow:dl:=fun f=>owg owL f
theorem b5L (f:Nat):ow f=owg owL f:=rfl
theorem b6D:owL=[(169,[0,1000])]:=rfl
attribute [go_sem] b5L b6D
theorem rp (cap:Nat): ∃n,jN aw 0 (bA (cJ (JG 162 aw) KS n) KS n aw.body (start [.lit (.slice none 0 cap)] []))=some (.lit (.slice none 0 0),[]):=⟨9,rfl⟩
theorem qR (ad:Addr) (cap:Nat):Call (JG 162 aw) KS 162 [.lit (.slice (some ad) 0 cap)] []=some (.sl 0 0 0,[⟨2,false,[]⟩]):=by
 have h0: ∀(h:ak) (a:Addr),ck h 2 (.lit (.slice (some a) 0 cap))=some (rws (⟨2,fun _=>[]⟩:En Unit) []):=fun _ _=>rfl
 have h1: ∀b (a:Addr),D0 b (.lit (.slice (some a) 0 cap))=true:=fun _ _=>rfl
 have hf:bW 0 16=true:=by decide
 rw [aa (af:=aw) (H6 _ _)]
 simp+decide only [aw,eV,fun k=>mk0 (⟨2,fun _=>[]⟩:En Unit) k,a00,h0,h1,hf,go_sem,reduceIte,Nat.reduceAdd]
 rfl
end Go.AI.Fn
