/- Codes. -/
import Derived.Test.YtdmhkkcihecndaaTb0
set_option linter.unusedVariables false
set_option maxRecDepth 100000
set_option maxHeartbeats 2000000
namespace Go.AI.Fn
open Proofs.Try
def eV:=cv (a:=gT f5 [[1,5,7,8,9],[1,5,7,8,9,11],[1,5,7,8,9,11],[1,5,7,8,9,11,27],[10],[1,5,7,8,9,11],[1,5,7,8,9,32],[10],[1,5,7,8,9,12,13],[1,5,7,8,9,12,13,14],[1,5,7,8,9,12,13,14,15],[1,5,7,8,9,12,13,14,15,16,17],[1,5,7,8,9,12,13,14,15,16,17,71],[10],[1,5,7,8,9,12,13,14,15,16,17,76],[10],[1,5,7,8,9,12,13,14,15,16,17,81],[10],[1,5,7,8,9,12,13,14,15,16,17,18],[1,5,7,8,9,12,13,15,16,17,18],[1,5,7,8,9,12,13,16,17,18],[1,5,7,8,9,12,13,16,100],[10],[1,5,7,8,9,12,13,16,19],[1,5,7,8,9,12,13,16,19],[1,5,7,8,9,12,13,16,19,20],[1,5,7,8,9,12,13,16,19,20],[1,5,7,8,9,12,13,16,19,20,108],[10],[1,5,7,8,9,12,13,16,19,111],[10],[12,13,16,19,21,22],[16,19,134],[10],[16,19,20],[19,20],[19,20,139],[10],[142],[10],[10]])
def a_w_FnExactBoundTable:aj:=⟨143,mkC eV.1,[.tmp 10],.false,.false⟩
theorem jf:OkF 5 a_w_FnExactBoundTable:=okq func5
def mj:=cv (a:=gT f26 [[1,2],[1,2],[1,2,10],[4],[1,2],[1,2,16],[4],[1],[1,22],[4],[4]])
def gt:aj:=⟨24,mkC mj.1,[.tmp 4],.false,.false⟩
theorem sa:OkF 26 gt:=okq func26
def pG:=cv (a:=gT f27 [[0,1],[1],[1,10],[4],[4]])
def ja:aj:=⟨12,mkC pG.1,[.tmp 4],.false,.false⟩
theorem vK:OkF 27 ja:=okq func27
def ke:=cv (a:=gT f28 [[1,5,7,8,9],[1,5,7,8,9,14],[10,11],[1,5,7,8,9,31],[10,11],[1,5,7,8,9,37],[10,11],[10,11]])
def eO:aj:=⟨46,mkC ke.1,[.tmp 10,.tmp 11],.false,.false⟩
theorem oY:OkF 28 eO:=okq func28
def lv:=cv (a:=gT f29 [[1,2],[1,2,3],[1,2,3],[1,2,3],[1,2,3],[1,2,3],[1,2,3],[2,3],[2]])
def fD:aj:=⟨26,mkC lv.1,[.cell 2 (.some 6)],.true,.false⟩
theorem qC:OkF 29 fD:=okq func29
def m8:=cv (a:=gT f30 [[0],[0,3],[0,3,4],[0,3,4,11],[0,3,4],[0,3,4],[2]] [(.close [6006])])
def j0:aj:=⟨23,mkC m8.1,[.tmp 2],.true,.false⟩
def nu:=cv (a:=lp m8.1 0)
def mG:ai:=mkC nu.1
theorem vv:OkF 30 j0:=okq func30
def sM:=cv (a:=gT f31 [[1,2],[1,2,3],[1,2,3],[2,3],[2]])
def kW:aj:=⟨11,mkC sM.1,[.cell 2 (.some 2)],.false,.false⟩
theorem yO:OkF 31 kW:=okq func31
def jp:=cv (a:=gT f32 [[1,5,7,8,9],[1,5,7,8,9,12],[10,11],[1,5,7,8,9,16],[10,11],[1,5,7,8,9,40],[10,11],[10,11]] [] [(999999,.nilTmp 10 999900 2)])
def dO:aj:=⟨53,mkC jp.1,[.tmp 10,.tmp 11],.true,.false⟩
theorem nP:OkF 32 dO:=okq func32
def mc:=cv (a:=gT f33 [[0,1],[0,1,10],[4],[0,1,5],[0,1,5,14],[0,1,5,26],[4],[0,1,5],[4]] [(.close [7008])])
def iT:aj:=⟨27,mkC mc.1,[.tmp 4],.false,.false⟩
def mI:=cv (a:=lp mc.1 0)
def mp:ai:=mkC mI.1
theorem xe:OkF 33 iT:=okq func33
def ne:=cv (a:=gT f34 [[2,3],[2,3,9],[4],[2,3,14],[4],[2,3,19],[4],[2,3,25],[4],[2,3,31],[4],[37],[4],[4]])
def gy:aj:=⟨38,mkC ne.1,[.tmp 4],.false,.false⟩
theorem rG:OkF 34 gy:=okq func34
def kP:=cv (a:=gT f35 [[1,2],[1,2],[1,2],[1],[4]])
def ep:aj:=⟨18,mkC kP.1,[.tmp 4],.false,.false⟩
theorem oJ:OkF 35 ep:=okq func35
def ji:=cv (a:=gT f36 [[0,1],[0,1,5],[0,1,5,9],[0,1,5],[0,1,5],[0,1,5],[0,1,5],[0,1,5],[4]] [(.close [])])
def gg:aj:=⟨27,mkC ji.1,[.tmp 4],.false,.false⟩
def kK:=cv (a:=lp ji.1 0)
def jS:ai:=mkC kK.1
theorem s9:OkF 36 gg:=okq func36
def j2:=cv (a:=gT f37 [[0,1],[0,1,5],[0,1,5,9],[0,1,5,18],[4],[0,1,5],[0,1,5,27],[4],[0,1,5],[0,1,5],[4]] [(.close [])])
def gx:aj:=⟨31,mkC j2.1,[.tmp 4],.false,.false⟩
def kL:=cv (a:=lp j2.1 0)
def jX:ai:=mkC kL.1
theorem s3:OkF 37 gx:=okq func37
def EG:=cv (a:=gT f62 [[0,1,2],[6]])
def uD:aj:=⟨15,mkC EG.1,[.tmp 6],.false,.false⟩
theorem Hv:OkF 62 uD:=okq func62
def og:=cv (a:=gT f64 [[0],[2]])
def ia:aj:=⟨5,mkC og.1,[.tmp 2],.false,.false⟩
theorem ug:OkF 64 ia:=okq func64
def lF:=cv (a:=gT f66 [[1,2],[4]])
def fq:aj:=⟨9,mkC lF.1,[.tmp 4],.false,.false⟩
theorem pS:OkF 66 fq:=okq func66
def sO:=cv (a:=gT f67 [[1],[2]])
def lc:aj:=⟨11,mkC sO.1,[.tmp 2],.false,.false⟩
theorem yb:OkF 67 lc:=okq func67
def ll:=cv (a:=gT f69 [[2,3,4],[4]])
def fm:aj:=⟨29,mkC ll.1,[.cell 4 (.some 2)],.false,.false⟩
theorem rq:OkF 69 fm:=okq func69
def mX:=cv (a:=gT f70 [[2,3,4],[4]])
def gb:aj:=⟨16,mkC mX.1,[.cell 4 (.some 2)],.false,.false⟩
theorem rE:OkF 70 gb:=okq func70
def sU:=cv (a:=gT f72 [[0,1,2],[6]])
def l9:aj:=⟨15,mkC sU.1,[.tmp 6],.false,.false⟩
theorem xC:OkF 72 l9:=okq func72
def ta:=cv (a:=gT f81 [[2,3],[2,3,9],[4],[14],[4],[4]])
def kY:aj:=⟨15,mkC ta.1,[.tmp 4],.false,.false⟩
theorem yy:OkF 81 kY:=okq func81
def mZ:=cv (a:=gT f89 [[0,1],[1],[1,10],[4],[4]])
def gu:aj:=⟨12,mkC mZ.1,[.tmp 4],.false,.false⟩
theorem sf:OkF 89 gu:=okq func89
def mK:=cv (a:=gT f90 [[1],[2]])
def gi:aj:=⟨49,mkC mK.1,[.tmp 2],.false,.false⟩
theorem rW:OkF 90 gi:=okq func90
def ku:=cv (a:=gT f91 [[0],[0,3],[0,3,7],[0,3,15],[2],[0,3],[2]] [(.close [5004])])
def ic:aj:=⟨16,mkC ku.1,[.tmp 2],.false,.false⟩
def lL:=cv (a:=lp ku.1 0)
def lD:ai:=mkC lL.1
theorem tH:OkF 91 ic:=okq func91
def gj:=cv (a:=gT f92 [[1,2,3],[1,2,3,7],[2,3,7,8],[2,7,8,9],[2,7,8,9,10],[2,7,8,9,10,28],[2,7,8,9,10,11],[2,7,8,9,10,11,37],[2,7,8,9,10,11,12],[2,7,8,9,10,11],[2,7,8,9,10,11],[2,7,8,9,10],[6]] [(.close [11007,12014,12020,12021,12022]),(.close [11007,12014,12020,12021,12022])])
def gq:aj:=⟨72,mkC gj.1,[.tmp 6],.false,.false⟩
def kN:=cv (a:=lp gj.1 0)
def jC:ai:=mkC kN.1
def kO:=cv (a:=lp gj.1 1)
def kz:ai:=mkC kO.1
theorem rQ:OkF 92 gq:=okq func92
def jg:=cv (a:=gT f93 [[0],[0,3],[0,3,4],[0,3,4,11],[0,3,4],[0,3,4],[2]] [(.close [6006])])
def gw:aj:=⟨23,mkC jg.1,[.tmp 2],.true,.false⟩
def jO:=cv (a:=lp jg.1 0)
def kw:ai:=mkC jO.1
theorem sg:OkF 93 gw:=okq func93
def j4:=cv (a:=gT f94 [[1],[1,23],[2],[1,25,26],[1,25,26,27],[1,4,25,26],[1,25,26,37],[2],[1,25,26],[2]] [(.close [7007])])
def gp:aj:=⟨39,mkC j4.1,[.tmp 2],.false,.false⟩
def q5:=cv (a:=lp j4.1 0)
def EX:ai:=mkC q5.1
theorem sh:OkF 94 gp:=okq func94
def ew:=cv (a:=gT f95 [[1,3,5],[3,5,7,8],[5,7,8,20,21],[5,7,8,20,21,22],[5,7,8,9,10,20,21],[5,7,8,9,20,21,25,26,27],[5,7,8,9,20,21,25,26,27,28],[5,7,8,9,12,20,21,25,26,27],[5,7,8,9,20,21,25,26,27],[5,7,8,9,20,21,25,26,27],[5,7,8,20,21],[6]] [(.close [8002,9016,9019,9020]),(.close [8002,9016,9019,9020])])
def eK:aj:=⟨56,mkC ew.1,[.tmp 6],.true,.false⟩
def nM:=cv (a:=lp ew.1 0)
def Cd:ai:=mkC nM.1
def dv:=cv (a:=lp ew.1 1)
def bO:ai:=mkC dv.1
theorem p6:OkF 95 eK:=okq func95
def jn:=cv (a:=gT f96 [[0,1],[0,1,10],[4],[0,1,5],[0,1,5,14],[0,1,5,26],[4],[0,1,5],[4]] [(.close [7008])])
def gz:aj:=⟨27,mkC jn.1,[.tmp 4],.false,.false⟩
def jT:=cv (a:=lp jn.1 0)
def jR:ai:=mkC jT.1
theorem sn:OkF 96 gz:=okq func96
def hK:=cv (a:=gT f97 [[0,1],[0,1,5],[0,1,5,9],[0,1,5],[0,1,5],[0,1,5],[0,1,5],[0,1,5],[0,1,5],[0,1,5],[4]] [(.close [])])
def eH:aj:=⟨34,mkC hK.1,[.tmp 4],.false,.false⟩
def iR:=cv (a:=lp hK.1 0)
def iB:ai:=mkC iR.1
theorem oP:OkF 97 eH:=okq func97
def pv:=cv (a:=gT f118 [[0,1],[4]])
def j6:aj:=⟨9,mkC pv.1,[.tmp 4],.false,.false⟩
theorem vy:OkF 118 j6:=okq func118
def rj:=cv (a:=gT f119 [[2,3,4],[4]])
def jd:aj:=⟨30,mkC rj.1,[.cell 4 (.some 2)],.false,.false⟩
theorem vx:OkF 119 jd:=okq func119
def sQ:=cv (a:=gT f120 [[0,2],[2]])
def l5:aj:=⟨5,mkC sQ.1,[.cell 2 (.some 2)],.false,.false⟩
theorem ye:OkF 120 l5:=okq func120
def qr:=cv (a:=gT f121 [[2,3,4],[4]])
def j3:aj:=⟨16,mkC qr.1,[.cell 4 (.some 2)],.false,.false⟩
theorem wo:OkF 121 j3:=okq func121
def re:=cv (a:=gT f122 [[2,3,4],[4]])
def iZ:aj:=⟨16,mkC re.1,[.cell 4 (.some 2)],.false,.false⟩
theorem xl:OkF 122 iZ:=okq func122
def k8:=cv (a:=gT f125 [[1,2,4],[4]])
def eD:aj:=⟨14,mkC k8.1,[.cell 4 (.some 2)],.false,.false⟩
theorem oZ:OkF 125 eD:=okq func125
def zK:=cv (a:=gT f126 [[0,1],[4]])
def pr:aj:=⟨9,mkC zK.1,[.tmp 4],.false,.false⟩
theorem Ga:OkF 126 pr:=okq func126
def bX:=cv (a:=gT f127 [[0,1],[4]])
def aP:aj:=⟨9,mkC bX.1,[.tmp 4],.false,.false⟩
theorem dJ:OkF 127 aP:=okq func127
def js:=cv (a:=gT f128 [[1,2],[3]])
def dM:aj:=⟨8,mkC js.1,[.tmp 3],.false,.false⟩
theorem nV:OkF 128 dM:=okq func128
def zZ:=cv (a:=gT f130 [[0,1],[4]])
def p8:aj:=⟨9,mkC zZ.1,[.tmp 4],.false,.false⟩
theorem Cu:OkF 130 p8:=okq func130
def sL:=cv (a:=gT f135 [[1],[2]])
def le:aj:=⟨11,mkC sL.1,[.tmp 2],.false,.false⟩
theorem yg:OkF 135 le:=okq func135
def jM:=cv (a:=gT f152 [[0,1,2],[0,1,2,11],[6],[0,1,2,7],[0,1,2,7,15],[0,1,2,7,8],[0,1,2,7,8,45],[6],[0,1,2,7,80],[6],[0,1,2,7],[6]] [(.close [7004,8006,8015,8021])])
def im:aj:=⟨81,mkC jM.1,[.tmp 6],.false,.false⟩
def lm:=cv (a:=lp jM.1 0)
def lu:ai:=mkC lm.1
theorem tR:OkF 152 im:=okq func152
def ld:=cv (a:=gT f153 [[0],[0,3],[0,3,4],[0,3,4,12],[0,3,4,5],[0,3,4,5,6],[0,3,4,5,6,22],[0,3,4,5,6],[0,3,4,5,6],[0,3,4,5,6],[0,3,4],[0,3,4],[2]] [(.close [6003,10010,10011,11013,2001]),(.close [10010,10011,11013])])
def kR:aj:=⟨55,mkC ld.1,[.tmp 2],.false,.false⟩
def o2:=cv (a:=lp ld.1 0)
def oC:ai:=mkC o2.1
def ob:=cv (a:=lp ld.1 1)
def ou:ai:=mkC ob.1
theorem ze:OkF 153 kR:=okq func153
def ov:=cv (a:=gT f154 [[1,2],[1,2,3],[1,2,3],[1,2,3],[2,3],[2]])
def ib:aj:=⟨14,mkC ov.1,[.cell 2 (.some 3)],.false,.false⟩
theorem tl:OkF 154 ib:=okq func154
def jy:=cv (a:=gT f155 [[1],[2]])
def dP:aj:=⟨7,mkC jy.1,[.tmp 2],.false,.false⟩
theorem nT:OkF 155 dP:=okq func155
def fY:=cv (a:=gT f156 [[1,2],[2]])
def cu:aj:=⟨10,mkC fY.1,[.cell 2 (.some 3)],.false,.false⟩
theorem jJ:OkF 156 cu:=okq func156
def jj:=cv (a:=gT f157 [[0,1,2],[0,1,2,9,10,11],[0,1,2,9,10,11,12],[0,1,2,7,8,9,10,11],[0,1,2,9,10,11,49],[6],[0,1,2,9,10,11],[6]] [(.close [4003,5004,5011,5017,5030])])
def gk:aj:=⟨54,mkC jj.1,[.tmp 6],.false,.false⟩
def kE:=cv (a:=lp jj.1 0)
def kQ:ai:=mkC kE.1
theorem rA:OkF 157 gk:=okq func157
def iq:=cv (a:=gT f158 [[0],[0,3],[3,12,13,14],[3,12,13,14,15],[3,5,12,13,14],[3,5,6,7,12,13,14],[5,6,7,12,13,14,20,21,22],[5,6,7,12,13,14,20,21,22,23],[5,6,7,9,12,13,14,20,21,22],[5,6,7,12,13,14,20,21,22],[5,6,7,12,13,14,20,21,22],[3,12,13,14],[3,12,13,14],[2]] [(.close [5002,6000,6001,9002,10002,10004,10005,10006,10007,10011,10012,10013,12002,2001]),(.close [9002,10002,10004,10005,10006,10007,10011,10012,10013])])
def ik:aj:=⟨46,mkC iq.1,[.tmp 2],.false,.false⟩
def lG:=cv (a:=lp iq.1 0)
def lK:ai:=mkC lG.1
def lQ:=cv (a:=lp iq.1 1)
def lP:ai:=mkC lQ.1
theorem uA:OkF 158 ik:=okq func158
def oy:=cv (a:=gT f159 [[2,3],[2,3,9],[4],[2,3,14],[4],[19],[4],[4]])
def io:aj:=⟨20,mkC oy.1,[.tmp 4],.false,.false⟩
theorem u7:OkF 159 io:=okq func159
def lC:=cv (a:=gT f179 [[2,3,4],[4]])
def fA:aj:=⟨16,mkC lC.1,[.cell 4 (.some 2)],.false,.false⟩
theorem r4:OkF 179 fA:=okq func179
def pR:=cv (a:=gT f182 [[0,1],[4]])
def j7:aj:=⟨9,mkC pR.1,[.tmp 4],.false,.false⟩
theorem wD:OkF 182 j7:=okq func182
def q6:=cv (a:=gT f183 [[0,1],[4]])
def iX:aj:=⟨10,mkC q6.1,[.tmp 4],.false,.false⟩
theorem w8:OkF 183 iX:=okq func183
def bw:=cv (a:=gT f184 [[0,1],[0,1,7,8],[0,1,7,8,9],[0,1,5,7,8],[0,1,5,7,8,16],[4],[0,1,7,8],[4]] [(.close [5005])])
def aW:aj:=⟨19,mkC bw.1,[.tmp 4],.false,.false⟩
def ce:=cv (a:=lp bw.1 0)
def cg:ai:=mkC ce.1
theorem eQ:OkF 184 aW:=okq func184
def o7:=cv (a:=gT f186 [[0],[2]])
def ig:aj:=⟨5,mkC o7.1,[.tmp 2],.false,.false⟩
theorem ti:OkF 186 ig:=okq func186
def rz:=cv (a:=gT f195 [[0],[0]])
def j8:aj:=⟨2,mkC rz.1,[.cell 0 (.some 2)],.false,.false⟩
theorem v7:OkF 195 j8:=okq func195
def oo:=cv (a:=gT f196 [[1,2],[2]])
def ip:aj:=⟨6,mkC oo.1,[.cell 2 (.some 2)],.false,.false⟩
theorem uC:OkF 196 ip:=okq func196
def jq:=cv (a:=gT f197 [[2,3],[4]])
def dU:aj:=⟨17,mkC jq.1,[.tmp 4],.false,.false⟩
theorem nJ:OkF 197 dU:=okq func197
def A8:=cv (a:=gT f198 [[0],[0]])
def p7:aj:=⟨2,mkC A8.1,[.cell 0 (.some 2)],.false,.false⟩
theorem DP:OkF 198 p7:=okq func198
def zr:=cv (a:=gT f208 [[0,1],[4]])
def pa:aj:=⟨10,mkC zr.1,[.tmp 4],.false,.false⟩
theorem Fy:OkF 208 pa:=okq func208
def je:=cv (a:=gT f214 [[0],[0,3],[3,6,7,8],[3,6,7,8,9],[3,5,6,7,8],[3,5,6,7,8,14],[2],[3,6,7,8],[2]] [(.close [])])
def gr:aj:=⟨18,mkC je.1,[.tmp 2],.false,.false⟩
def k9:=cv (a:=lp je.1 0)
def kf:ai:=mkC k9.1
theorem rP:OkF 214 gr:=okq func214
def ie:=cv (a:=gT f215 [[0,1],[0,1,5],[0,1,5,6],[0,1,6,11],[12],[4],[4],[0,1,13],[4],[0,1,16],[4],[19],[4],[4]])
def cY:aj:=⟨20,mkC ie.1,[.tmp 4],.false,.false⟩
theorem mf:OkF 215 cY:=okq func215
def jr:=cv (a:=gT f222 [[0],[2]])
def dT:aj:=⟨6,mkC jr.1,[.tmp 2],.false,.false⟩
theorem nY:OkF 222 dT:=okq func222
end Go.AI.Fn
