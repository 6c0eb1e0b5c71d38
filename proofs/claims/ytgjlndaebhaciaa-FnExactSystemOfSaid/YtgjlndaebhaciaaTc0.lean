/- Codes. -/
import Derived.Test.YtgjlndaebhaciaaTb0
set_option linter.unusedVariables false
set_option maxRecDepth 100000
set_option maxHeartbeats 2000000
namespace Go.AI.Fn
open Proofs.Try
def ik:=cv (a:=gT f3 [[1],[1,3],[1,3],[1,18],[2],[1,4,5],[1,4,5,6],[1,4,5,6,7,8],[1,4,5,6,7,8,40],[2],[1,4,5,6,7,8,45],[2],[1,4,5,6,7,8,9],[1,4,5,7,8,9],[1,4,5,7,61],[2],[1,4,5,7,10],[1,4,5,7,10],[1,4,5,7,10,11],[1,4,5,7,10,11],[1,4,5,7,10,11,69],[2],[1,4,5,7,10,72],[2],[4,5,7,10,12,13],[7,10,87],[2],[7,10,11],[10,11],[10,11,92],[2],[95],[2],[2]])
def a_w_FnExactSystemOf:aJ:=⟨96,mkC ik.1,[.tmp 2],.false,.false⟩
theorem mc:OkF 3 a_w_FnExactSystemOf:=okq func3
def nK:=cv (a:=gT f7 [[1,2],[1],[1,10],[4],[4]])
def gU:aJ:=⟨12,mkC nK.1,[.tmp 4],.false,.false⟩
theorem tg:OkF 7 gU:=okq func7
def oS:=cv (a:=gT f8 [[1,2],[1,2,6],[2,3],[2,3]])
def iz:aJ:=⟨10,mkC oS.1,[.cell 2 (.some 6),.tmp 3],.false,.false⟩
theorem tP:OkF 8 iz:=okq func8
def mJ:=cv (a:=gT f9 [[1,2],[1,2,3],[2,3],[2]])
def fH:aJ:=⟨9,mkC mJ.1,[.cell 2 (.some 1)],.true,.false⟩
theorem qy:OkF 9 fH:=okq func9
def nD:=cv (a:=gT f10 [[1,2],[1,2,6],[2,3],[2,3]] [] [(999999,.nilCell 1001 3 999900 3),(999999,.nilCell 1001 4 999901 3),(999999,.nilCell 1001 5 999902 3)])
def gX:aJ:=⟨10,mkC nD.1,[.cell 2 (.some 6),.tmp 3],.true,.false⟩
theorem ta:OkF 10 gX:=okq func10
def oY:=cv (a:=gT f11 [[2,3],[2,3,9],[4],[2,3,14],[4],[2,3,19],[4],[2,3,25],[4],[2,3,31],[4],[37],[4],[4]])
def iA:aJ:=⟨38,mkC oY.1,[.tmp 4],.false,.false⟩
theorem tT:OkF 11 iA:=okq func11
def nS:=cv (a:=gT f12 [[2,3],[10],[4],[4]])
def gN:aJ:=⟨11,mkC nS.1,[.tmp 4],.false,.false⟩
theorem sD:OkF 12 gN:=okq func12
def ln:=cv (a:=gT f13 [[1,2],[1],[4]])
def eX:aJ:=⟨10,mkC ln.1,[.tmp 4],.false,.false⟩
theorem pi:OkF 13 eX:=okq func13
def mG:=cv (a:=gT f14 [[1,2],[1,2],[1,2],[1],[4]])
def fR:aJ:=⟨18,mkC mG.1,[.tmp 4],.false,.false⟩
theorem qr:OkF 14 fR:=okq func14
def mQ:=cv (a:=gT f15 [[1,2],[1,2],[1,2,10],[4],[1,2],[1,2,16],[4],[1],[1,22],[4],[4]])
def fK:aJ:=⟨24,mkC mQ.1,[.tmp 4],.false,.false⟩
theorem qE:OkF 15 fK:=okq func15
def jw:=cv (a:=gT f22 [[1],[1,9],[2],[1,11,12,13],[1,11,12,13,14],[1,3,4,11,12,13],[1,11,12,13,21],[2],[1,11,12,13],[2]] [(.close [6003,7002])])
def gG:aJ:=⟨26,mkC jw.1,[.tmp 2],.false,.false⟩
def l5:=cv (a:=lp jw.1 0)
def l8:aA:=mkC l5.1
theorem sL:OkF 22 gG:=okq func22
def pX:=cv (a:=gT f39 [[0,1],[1],[1,10],[4],[4]])
def j8:aJ:=⟨12,mkC pX.1,[.tmp 4],.false,.false⟩
theorem wi:OkF 39 j8:=okq func39
def jA:=cv (a:=gT f40 [[1],[1,8],[2],[1,3],[1,3,13],[1,3,23],[2],[1,3],[2]] [(.close [7006])])
def gK:aJ:=⟨27,mkC jA.1,[.tmp 2],.false,.false⟩
def lh:=cv (a:=lp jA.1 0)
def l7:aA:=mkC lh.1
theorem sd:OkF 40 gK:=okq func40
def gL:=cv (a:=gT f41 [[1,2],[1,2,3,4],[1,2,3,5],[1,2,3,5,6],[1,2,3,5,6,7],[1,2,3,5,6,7,26],[1,2,3,5,6,7,8],[1,2,3,5,6,7,8,35],[1,2,3,5,6,7,8,35,36],[1,2,3,5,6,7,8,35,36],[1,2,3,5,6,7,8,35,39],[1,2,3,5,6,7,8],[1,2,3,5,6,7],[1,2,3,5,6,7,8,35,61],[1,2,3,5,6,7,8,35,61],[1,2,3,5,6,7,8],[1,2,3,5,6,7,8,9],[1,2,3,5,6,7,8,9,76],[1,2,3,5,6,7,8,9],[1,2,3,5,6,7],[1,2,3,5,6,7],[1,2,3,5,6,7,8,35,93],[1,2,3,5,6,7,8,97],[1,2,3,5,6,7],[1,2,3,5,6,7],[1,2,3,5,6,7,8,35,110],[1,2,3,5,6,7,8],[1,2,3,5,6,7,8],[1,2,3,5,6,7,8],[1,2,3,5,6,7,8],[1,2,3,5,6,7],[1,2,3,5,6,7],[1,2,3,5,6,7,8,153],[1,2,3,5,6,7,8],[1,2,3,5,6,7,8],[1,2,3,5,6,7,8],[1,2,3,5,6,7,8],[1,2,3,5,6,7],[1,2,3,5,6,7],[1,2,3,5,6,7],[1,2,3,5,6,7],[1,2,3,5,6,7],[2,5,6],[2,5,6,218],[2,5,6],[2]] [(.close [8005,13008,14008,17008,21009,22003,25005,26003,28008,29003,30007,32008,33003,35008,36008,37007,39008,40003,41007,3003,3004,3005]),(.close [])])
def gR:aJ:=⟨224,mkC gL.1,[.cell 2 (.some 6)],.false,.false⟩
def lz:=cv (a:=lp gL.1 0)
def lD:aA:=mkC lz.1
def jL:=cv (a:=lp gL.1 1)
def kg:aA:=mkC jL.1
theorem sH:OkF 41 gR:=okq func41
def mE:=cv (a:=gT f42 [[0],[0,3],[0,3,4],[0,3,4,11],[0,3,4],[0,3,4],[2]] [(.close [6006])])
def ja:aJ:=⟨23,mkC mE.1,[.tmp 2],.true,.false⟩
def np:=cv (a:=lp mE.1 0)
def nO:aA:=mkC np.1
theorem vK:OkF 42 ja:=okq func42
def bN:=cv (a:=gT f43 [[1,2],[1,2,3],[1,2,3,4],[1,2,3,4,29],[1,2,3,4],[1,2,3,5,6,7],[1,2,3,5,6,7,38,39,40],[1,2,3,5,6,7,38,39,40,41],[1,2,3,5,6,7,9,38,39,40],[1,2,3,5,6,7,38,39,40,46],[1,2,3,5,6,7,38,39,40],[1,2,3,5,6,7,38,39,40],[1,2,3,5,6,7,38,39,40],[1,2,3,5,10],[2,3,5,10,66,67,68],[2,3,5,10,66,67,68,69],[2,3,5,10,11,12,66,67,68],[2,3,5,10,66,67,68],[2,3,5,10,66,67,68],[2,3,5,10,66,67,68,69,89],[2,3,5,10,66,67,68,69],[2,3],[2]] [(.close [4001]),(.close [9002,11002,11003,12002,12003]),(.close [17003,18007]),(.close [])])
def cO:aJ:=⟨113,mkC bN.1,[.cell 2 (.some 6)],.true,.false⟩
def fV:=cv (a:=lp bN.1 0)
def gk:aA:=mkC fV.1
def fY:=cv (a:=lp bN.1 1)
def fZ:aA:=mkC fY.1
def fS:=cv (a:=lp bN.1 2)
def fP:aA:=mkC fS.1
def fL:=cv (a:=lp bN.1 3)
def fy:aA:=mkC fL.1
theorem lY:OkF 43 cO:=okq func43
def ko:=cv (a:=gT f44 [[0,1],[0,1,10],[4],[0,1,5],[0,1,5,14],[0,1,5,26],[4],[0,1,5],[4]] [(.close [7008])])
def iw:aJ:=⟨27,mkC ko.1,[.tmp 4],.false,.false⟩
def mr:=cv (a:=lp ko.1 0)
def lP:aA:=mkC mr.1
theorem tA:OkF 44 iw:=okq func44
def mj:=cv (a:=gT f45 [[0,1],[0,1,10],[4],[0,1,5],[0,1,5,14],[0,1,5,26],[4],[0,1,5],[4]] [(.close [7008])])
def js:aJ:=⟨27,mkC mj.1,[.tmp 4],.false,.false⟩
def nw:=cv (a:=lp mj.1 0)
def nH:aA:=mkC nw.1
theorem uT:OkF 45 js:=okq func45
def jt:=cv (a:=gT f46 [[0,1],[0,1,5],[0,1,5,9],[0,1,5],[0,1,5],[0,1,5],[0,1,5],[0,1,5],[0,1,5],[0,1,5],[0,1,5],[0,1,5],[4]] [(.close [])])
def gI:aJ:=⟨41,mkC jt.1,[.tmp 4],.false,.false⟩
def lu:=cv (a:=lp jt.1 0)
def kS:aA:=mkC lu.1
theorem sc:OkF 46 gI:=okq func46
def iK:=cv (a:=gT f47 [[0,1],[0,1,5],[0,1,5,9],[0,1,5],[0,1,5],[0,1,5],[0,1,5],[0,1,5],[0,1,5],[0,1,5],[4]] [(.close [])])
def fu:aJ:=⟨34,mkC iK.1,[.tmp 4],.false,.false⟩
def jP:=cv (a:=lp iK.1 0)
def jI:aA:=mkC jP.1
theorem qN:OkF 47 fu:=okq func47
def iR:=cv (a:=gT f48 [[0,1],[0,1,5],[0,1,5,9],[0,1,5,18],[4],[0,1,5],[0,1,5,27],[4],[0,1,5],[0,1,5,36],[4],[0,1,5],[0,1,5],[4]] [(.close [])])
def fC:aJ:=⟨40,mkC iR.1,[.tmp 4],.false,.false⟩
def jK:=cv (a:=lp iR.1 0)
def jQ:aA:=mkC jK.1
theorem qP:OkF 48 fC:=okq func48
def Hs:=cv (a:=gT f59 [[0,1,2],[6]])
def vX:aJ:=⟨15,mkC Hs.1,[.tmp 6],.false,.false⟩
theorem LZ:OkF 59 vX:=okq func59
def ee:=cv (a:=gT f60 [[1,2],[1,2,5],[1,5,9,10,11],[1,5,9,10,11,12],[1,5,7,9,10,11],[1,5,9,10,11,18],[1,5,9,10,11],[1,5,9,10,11],[4]] [(.close [5002])])
def cN:aJ:=⟨23,mkC ee.1,[.tmp 4],.false,.false⟩
def g6:=cv (a:=lp ee.1 0)
def gj:aA:=mkC g6.1
theorem mz:OkF 60 cN:=okq func60
def sx:=cv (a:=gT f61 [[1,2],[1,2,5,6,7],[1,2,5,6,7,18],[1,2,5,6,7,18,19],[2,5,6,7],[1,2,5,6,7,18,24],[1,2,5,6,7,18,24],[1,2,5,6,7,18,24],[1,2,5,6,7,18,24],[2,5,6,7],[1,2,5,6,7,39],[2,5,6,7],[4]])
def kH:aJ:=⟨58,mkC sx.1,[.tmp 4],.false,.false⟩
theorem yA:OkF 61 kH:=okq func61
def lf:=cv (a:=gT f62 [[1],[2]])
def eW:aJ:=⟨7,mkC lf.1,[.tmp 2],.false,.false⟩
theorem pq:OkF 62 eW:=okq func62
def pJ:=cv (a:=gT f66 [[0],[2]])
def jd:aJ:=⟨5,mkC pJ.1,[.tmp 2],.false,.false⟩
theorem we:OkF 66 jd:=okq func66
def Br:=cv (a:=gT f72 [[0,1],[4]])
def r5:aJ:=⟨9,mkC Br.1,[.tmp 4],.false,.false⟩
theorem G5:OkF 72 r5:=okq func72
def u7:=cv (a:=gT f88 [[0,1,2],[6]])
def ng:aJ:=⟨15,mkC u7.1,[.tmp 6],.false,.false⟩
theorem zG:OkF 88 ng:=okq func88
def pP:=cv (a:=gT f89 [[1,2],[1,2,9],[4],[1,2,5],[2,52],[4],[2,55],[4],[4]])
def jg:aJ:=⟨62,mkC pP.1,[.tmp 4],.false,.false⟩
theorem uG:OkF 89 jg:=okq func89
def kK:=cv (a:=gT f90 [[1,2],[1,2,5],[1,2,5,6],[1,2,5,6,11],[1,2,5,6],[1,2,5,6],[4]] [(.close [6009])])
def iv:aJ:=⟨26,mkC kK.1,[.tmp 4],.false,.false⟩
def mK:=cv (a:=lp kK.1 0)
def mw:aA:=mkC mK.1
theorem to:OkF 90 iv:=okq func90
def lU:=cv (a:=gT f91 [[1],[1,4],[1,4,5],[1,4,5,6],[1,4,5,6,7],[1,4,5,6,7,8],[1,4,5,6,7,8,9],[1,4,5,6,7,8,9,21],[1,4,5,6,7,8,9,30],[1,4,5,6,7,8,9],[1,4,5,6,7,8,9],[1,4,5,6,7,8,9],[1,4,5,6,7,8,9],[1,4,5,6,7,8,9],[2,3]] [(.close [12002,12003,13004,13005])])
def jr:aJ:=⟨47,mkC lU.1,[.tmp 2,.tmp 3],.false,.false⟩
def nr:=cv (a:=lp lU.1 0)
def nN:aA:=mkC nr.1
theorem vP:OkF 91 jr:=okq func91
def km:=cv (a:=gT f92 [[0,1,2,3],[0,1,2,3,9],[0,1,2,3,9,35],[0,1,2,3,9],[0,1,2,3,9,59],[0,1,2,9,10],[0,1,2,9,10,11],[0,1,2,9,10,11,75],[0,9,11],[8],[8]] [(.close [])])
def is:aJ:=⟨103,mkC km.1,[.tmp 8],.false,.false⟩
def lO:=cv (a:=lp km.1 0)
def lT:aA:=mkC lO.1
theorem tN:OkF 92 is:=okq func92
def rW:=cv (a:=gT f93 [[1,2],[1,2,3],[1,2,3],[1,2,3],[1,2,3],[2,3],[2]])
def kw:aJ:=⟨17,mkC rW.1,[.cell 2 (.some 4)],.false,.false⟩
theorem xu:OkF 93 kw:=okq func93
def mN:=cv (a:=gT f94 [[0,2,5,7],[0,2,5,7,8],[0,2,5,7,8,11],[0,2,5,7,8,11,12],[],[0,2,5,7,8,11,21],[],[0,2,5,7,8,11,35],[],[0,2,5,7,8,11,49],[],[0,2,5,7,8,11,63],[0,2,5,8],[],[0,2,5,7,8,79],[0,2,5,8],[]])
def fx:aJ:=⟨100,mkC mN.1,[],.false,.false⟩
theorem qH:OkF 94 fx:=okq func94
def q9:=cv (a:=gT f96 [[2,3],[2,3,9],[4],[2,3,14],[4],[19],[4],[4]])
def jl:aJ:=⟨20,mkC q9.1,[.tmp 4],.false,.false⟩
theorem vI:OkF 96 jl:=okq func96
def rO:=cv (a:=gT f97 [[2,3],[2,3,9],[4],[2,3,14],[4],[2,3,19],[4],[24],[4],[4]])
def kv:aJ:=⟨25,mkC rO.1,[.tmp 4],.false,.false⟩
theorem yv:OkF 97 kv:=okq func97
def q7:=cv (a:=gT f100 [[0],[0,3],[2],[6],[2],[2]])
def jo:aJ:=⟨9,mkC q7.1,[.tmp 2],.false,.false⟩
theorem w8:OkF 100 jo:=okq func100
def tj:=cv (a:=gT f105 [[0,1],[4]])
def kn:aJ:=⟨9,mkC tj.1,[.tmp 4],.false,.false⟩
theorem xO:OkF 105 kn:=okq func105
def pO:=cv (a:=gT f130 [[0],[2]])
def je:aJ:=⟨5,mkC pO.1,[.tmp 2],.false,.false⟩
theorem wh:OkF 130 je:=okq func130
def sF:=cv (a:=gT f131 [[0],[3],[2],[2]])
def kq:aJ:=⟨4,mkC sF.1,[.tmp 2],.false,.false⟩
theorem wW:OkF 131 kq:=okq func131
def oa:=cv (a:=gT f132 [[1],[1,3],[3,4],[3,4,5],[3,4,5,21],[3,4,5],[2]] [(.close [])])
def kP:aJ:=⟨25,mkC oa.1,[.tmp 2],.false,.false⟩
def pc:=cv (a:=lp oa.1 0)
def oH:aA:=mkC pc.1
theorem xP:OkF 132 kP:=okq func132
def jZ:=cv (a:=gT f133 [[0,1,2],[5]])
def ea:aJ:=⟨13,mkC jZ.1,[.tmp 5],.true,.false⟩
theorem oV:OkF 133 ea:=okq func133
def jx:=cv (a:=gT f134 [[0,2,3,11,12,13],[0,2,3,11,12,13,14],[0,2,3,9,11,12,13],[0,2,3,9,10,11,12,13],[0,2,3,11,12,13],[0,2,3,11,12,13],[0],[]] [(.close [3002,4007,5013])])
def gV:aJ:=⟨70,mkC jx.1,[],.false,.false⟩
def lr:=cv (a:=lp jx.1 0)
def kU:aA:=mkC lr.1
theorem sV:OkF 134 gV:=okq func134
end Go.AI.Fn
