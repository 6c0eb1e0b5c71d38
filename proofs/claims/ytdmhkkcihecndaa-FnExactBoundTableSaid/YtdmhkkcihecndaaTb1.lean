/- The table. -/
import Derived.Test.YtdmhkkcihecndaaTc0
set_option linter.unusedVariables false
set_option maxRecDepth 100000
namespace Go.AI.Fn
noncomputable def P2:List (Nat×Jr):=[(5,.code a_w_FnExactBoundTable),(26,.code gt),(27,.code ja),(28,.code eO),(29,.code fD),(30,.code j0),(31,.code kW),(32,.code dO),(33,.code iT),(34,.code gy),(35,.code ep),(36,.code gg),(37,.code gx),(62,.code uD),(64,.code ia),(66,.code fq),(67,.code lc),(69,.code fm),(70,.code gb),(72,.code l9),(81,.code kY),(89,.code gu),(90,.code gi),(91,.code ic),(92,.code gq),(93,.code gw),(94,.code gp),(95,.code eK),(96,.code gz),(97,.code eH),(118,.code j6),(119,.code jd),(120,.code l5),(121,.code j3),(122,.code iZ),(125,.code eD),(126,.code pr),(127,.code aP),(128,.code dM),(130,.code p8),(135,.code le),(152,.code im),(153,.code kR),(154,.code ib),(155,.code dP),(156,.code cu),(157,.code gk),(158,.code ik),(159,.code io),(179,.code fA),(182,.code j7),(183,.code iX),(184,.code aW),(186,.code ig),(195,.code j8),(196,.code ip),(197,.code dU),(198,.code p7),(208,.code pa),(214,.code gr),(215,.code cY),(222,.code dT)]
noncomputable def tab:Tab:=fun f=>bq P2 f
def owL:List (Nat×List Nat):=[(29,[2000]),(30,[2000]),(32,[2000]),(35,[0]),(36,[0]),(93,[2000]),(95,[2000]),(97,[0])]
def ow:bm:=fun f=>owg owL f
theorem Pk (f:Nat):ow f=owg owL f:=rfl
theorem Px:owL=[(29,[2000]),(30,[2000]),(32,[2000]),(35,[0]),(36,[0]),(93,[2000]),(95,[2000]),(97,[0])]:=rfl
attribute [go_sem] Pk Px
end Go.AI.Fn
