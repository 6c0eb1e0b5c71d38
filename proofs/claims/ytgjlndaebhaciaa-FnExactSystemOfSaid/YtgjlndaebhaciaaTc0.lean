/- Codes. -/
import Derived.Test.YtgjlndaebhaciaaTb0
set_option linter.unusedVariables false
set_option maxRecDepth 100000
set_option maxHeartbeats 2000000
namespace Go.AI.Fn
open Proofs.Try
def im:=cv (a:=gT f3 [[1],[1,3],[1,3],[1,18],[2],[1,4,5],[1,4,5,6],[1,4,5,6,7,8],[1,4,5,6,7,8,40],[2],[1,4,5,6,7,8,45],[2],[1,4,5,6,7,8,9],[1,4,5,7,8,9],[1,4,5,7,61],[2],[1,4,5,7,10],[1,4,5,7,10],[1,4,5,7,10,11],[1,4,5,7,10,11],[1,4,5,7,10,11,69],[2],[1,4,5,7,10,72],[2],[4,5,7,10,12,13],[7,10,87],[2],[7,10,11],[10,11],[10,11,92],[2],[95],[2],[2]])
def a_w_FnExactSystemOf:aI:=⟨96,mkC im.1,[.tmp 2],.false,.false⟩
theorem mU:OkF 3 a_w_FnExactSystemOf:=okq func3
def nI:=cv (a:=gT f7 [[1,2],[1],[1,10],[4],[4]])
def gG:aI:=⟨12,mkC nI.1,[.tmp 4],.false,.false⟩
theorem tk:OkF 7 gG:=okq func7
def p6:=cv (a:=gT f8 [[1,2],[1,2,6],[2,3],[2,3]])
def iw:aI:=⟨10,mkC p6.1,[.cell 2 (.some 6),.tmp 3],.false,.false⟩
theorem tz:OkF 8 iw:=okq func8
def mV:=cv (a:=gT f9 [[1,2],[1,2,3],[2,3],[2]])
def fK:aI:=⟨9,mkC mV.1,[.cell 2 (.some 1)],.true,.false⟩
theorem qC:OkF 9 fK:=okq func9
def nP:=cv (a:=gT f10 [[1,2],[1,2,6],[2,3],[2,3]] [] [(999999,.nilCell 1001 3 999900 3),(999999,.nilCell 1001 4 999901 3),(999999,.nilCell 1001 5 999902 3)])
def gz:aI:=⟨10,mkC nP.1,[.cell 2 (.some 6),.tmp 3],.true,.false⟩
theorem tl:OkF 10 gz:=okq func10
def oz:=cv (a:=gT f11 [[2,3],[2,3,9],[4],[2,3,14],[4],[2,3,19],[4],[2,3,25],[4],[2,3,31],[4],[37],[4],[4]])
def is:aI:=⟨38,mkC oz.1,[.tmp 4],.false,.false⟩
theorem tx:OkF 11 is:=okq func11
def nO:=cv (a:=gT f12 [[2,3],[10],[4],[4]])
def gH:aI:=⟨11,mkC nO.1,[.tmp 4],.false,.false⟩
theorem rn:OkF 12 gH:=okq func12
def kW:=cv (a:=gT f13 [[1,2],[1],[4]])
def eV:aI:=⟨10,mkC kW.1,[.tmp 4],.false,.false⟩
theorem pt:OkF 13 eV:=okq func13
def mK:=cv (a:=gT f14 [[1,2],[1,2],[1,2],[1],[4]])
def fG:aI:=⟨18,mkC mK.1,[.tmp 4],.false,.false⟩
theorem qV:OkF 14 fG:=okq func14
def lR:=cv (a:=gT f15 [[1,2],[1,2],[1,2,10],[4],[1,2],[1,2,16],[4],[1],[1,22],[4],[4]])
def fA:aI:=⟨24,mkC lR.1,[.tmp 4],.false,.false⟩
theorem qE:OkF 15 fA:=okq func15
def jG:=cv (a:=gT f22 [[1],[1,9],[2],[1,11,12,13],[1,11,12,13,14],[1,3,4,11,12,13],[1,11,12,13,21],[2],[1,11,12,13],[2]] [(.close [6003,7002])])
def gV:aI:=⟨26,mkC jG.1,[.tmp 2],.false,.false⟩
def lm:=cv (a:=lp jG.1 0)
def lr:aw:=mkC lm.1
theorem rO:OkF 22 gV:=okq func22
def pP:=cv (a:=gT f39 [[0,1],[1],[1,10],[4],[4]])
def jl:aI:=⟨12,mkC pP.1,[.tmp 4],.false,.false⟩
theorem vA:OkF 39 jl:=okq func39
def jE:=cv (a:=gT f40 [[1],[1,8],[2],[1,3],[1,3,13],[1,3,23],[2],[1,3],[2]] [(.close [7006])])
def gL:aI:=⟨27,mkC jE.1,[.tmp 2],.false,.false⟩
def l0:=cv (a:=lp jE.1 0)
def lz:aw:=mkC l0.1
theorem sX:OkF 40 gL:=okq func40
def gJ:=cv (a:=gT f41 [[1,2],[1,2,3,4],[1,2,3,5],[1,2,3,5,6],[1,2,3,5,6,7],[1,2,3,5,6,7,26],[1,2,3,5,6,7,8],[1,2,3,5,6,7,8,35],[1,2,3,5,6,7,8,35,36],[1,2,3,5,6,7,8,35,36],[1,2,3,5,6,7,8,35,39],[1,2,3,5,6,7,8],[1,2,3,5,6,7],[1,2,3,5,6,7,8,35,61],[1,2,3,5,6,7,8,35,61],[1,2,3,5,6,7,8],[1,2,3,5,6,7,8,9],[1,2,3,5,6,7,8,9,76],[1,2,3,5,6,7,8,9],[1,2,3,5,6,7],[1,2,3,5,6,7],[1,2,3,5,6,7,8,35,93],[1,2,3,5,6,7,8,97],[1,2,3,5,6,7],[1,2,3,5,6,7],[1,2,3,5,6,7,8,35,110],[1,2,3,5,6,7,8],[1,2,3,5,6,7,8],[1,2,3,5,6,7,8],[1,2,3,5,6,7,8],[1,2,3,5,6,7],[1,2,3,5,6,7],[1,2,3,5,6,7,8,153],[1,2,3,5,6,7,8],[1,2,3,5,6,7,8],[1,2,3,5,6,7,8],[1,2,3,5,6,7,8],[1,2,3,5,6,7],[1,2,3,5,6,7],[1,2,3,5,6,7],[1,2,3,5,6,7],[1,2,3,5,6,7],[2,5,6],[2,5,6,218],[2,5,6],[2]] [(.close [8005,13008,14008,17008,21009,22003,25005,26003,28008,29003,30007,32008,33003,35008,36008,37007,39008,40003,41007,3003,3004,3005]),(.close [])])
def gU:aI:=⟨224,mkC gJ.1,[.cell 2 (.some 6)],.false,.false⟩
def lx:=cv (a:=lp gJ.1 0)
def kX:aw:=mkC lx.1
def jK:=cv (a:=lp gJ.1 1)
def ka:aw:=mkC jK.1
theorem sh:OkF 41 gU:=okq func41
def m9:=cv (a:=gT f42 [[0],[0,3],[0,3,4],[0,3,4,11],[0,3,4],[0,3,4],[2]] [(.close [6006])])
def jk:aI:=⟨23,mkC m9.1,[.tmp 2],.true,.false⟩
def nR:=cv (a:=lp m9.1 0)
def nK:aw:=mkC nR.1
theorem vf:OkF 42 jk:=okq func42
def bN:=cv (a:=gT f43 [[1,2],[1,2,3],[1,2,3,4],[1,2,3,4,29],[1,2,3,4],[1,2,3,5,6,7],[1,2,3,5,6,7,38,39,40],[1,2,3,5,6,7,38,39,40,41],[1,2,3,5,6,7,9,38,39,40],[1,2,3,5,6,7,38,39,40,46],[1,2,3,5,6,7,38,39,40],[1,2,3,5,6,7,38,39,40],[1,2,3,5,6,7,38,39,40],[1,2,3,5,10],[2,3,5,10,66,67,68],[2,3,5,10,66,67,68,69],[2,3,5,10,11,12,66,67,68],[2,3,5,10,66,67,68],[2,3,5,10,66,67,68],[2,3,5,10,66,67,68,69,89],[2,3,5,10,66,67,68,69],[2,3],[2]] [(.close [4001]),(.close [9002,11002,11003,12002,12003]),(.close [17003,18007]),(.close [])])
def cN:aI:=⟨113,mkC bN.1,[.cell 2 (.some 6)],.true,.false⟩
def gp:=cv (a:=lp bN.1 0)
def fX:aw:=mkC gp.1
def gn:=cv (a:=lp bN.1 1)
def ge:aw:=mkC gn.1
def fB:=cv (a:=lp bN.1 2)
def fR:aw:=mkC fB.1
def fH:=cv (a:=lp bN.1 3)
def fP:aw:=mkC fH.1
theorem mm:OkF 43 cN:=okq func43
def kN:=cv (a:=gT f44 [[0,1],[0,1,10],[4],[0,1,5],[0,1,5,14],[0,1,5,26],[4],[0,1,5],[4]] [(.close [7008])])
def ir:aI:=⟨27,mkC kN.1,[.tmp 4],.false,.false⟩
def mP:=cv (a:=lp kN.1 0)
def lX:aw:=mkC mP.1
theorem tu:OkF 44 ir:=okq func44
def lU:=cv (a:=gT f45 [[0,1],[0,1,10],[4],[0,1,5],[0,1,5,14],[0,1,5,26],[4],[0,1,5],[4]] [(.close [7008])])
def jp:aI:=⟨27,mkC lU.1,[.tmp 4],.false,.false⟩
def nr:=cv (a:=lp lU.1 0)
def nQ:aw:=mkC nr.1
theorem vR:OkF 45 jp:=okq func45
def jz:=cv (a:=gT f46 [[0,1],[0,1,5],[0,1,5,9],[0,1,5],[0,1,5],[0,1,5],[0,1,5],[0,1,5],[0,1,5],[0,1,5],[0,1,5],[0,1,5],[4]] [(.close [])])
def gB:aI:=⟨41,mkC jz.1,[.tmp 4],.false,.false⟩
def lF:=cv (a:=lp jz.1 0)
def kY:aw:=mkC lF.1
theorem tm:OkF 46 gB:=okq func46
def iX:=cv (a:=gT f47 [[0,1],[0,1,5],[0,1,5,9],[0,1,5],[0,1,5],[0,1,5],[0,1,5],[0,1,5],[0,1,5],[0,1,5],[4]] [(.close [])])
def fL:aI:=⟨34,mkC iX.1,[.tmp 4],.false,.false⟩
def jL:=cv (a:=lp iX.1 0)
def ke:aw:=mkC jL.1
theorem qP:OkF 47 fL:=okq func47
def iS:=cv (a:=gT f48 [[0,1],[0,1,5],[0,1,5,9],[0,1,5,18],[4],[0,1,5],[0,1,5,27],[4],[0,1,5],[0,1,5,36],[4],[0,1,5],[0,1,5],[4]] [(.close [])])
def fI:aI:=⟨40,mkC iS.1,[.tmp 4],.false,.false⟩
def kh:=cv (a:=lp iS.1 0)
def jQ:aw:=mkC kh.1
theorem qt:OkF 48 fI:=okq func48
def EX:=cv (a:=gT f59 [[0,1,2],[6]])
def uT:aI:=⟨15,mkC EX.1,[.tmp 6],.false,.false⟩
theorem KS:OkF 59 uT:=okq func59
def ed:=cv (a:=gT f60 [[1,2],[1,2,5],[1,5,9,10,11],[1,5,9,10,11,12],[1,5,7,9,10,11],[1,5,9,10,11,18],[1,5,9,10,11],[1,5,9,10,11],[4]] [(.close [5002])])
def cO:aI:=⟨23,mkC ed.1,[.tmp 4],.false,.false⟩
def gg:=cv (a:=lp ed.1 0)
def fW:aw:=mkC gg.1
theorem mr:OkF 60 cO:=okq func60
def rF:=cv (a:=gT f61 [[1,2],[1,2,5,6,7],[1,2,5,6,7,18],[1,2,5,6,7,18,19],[2,5,6,7],[1,2,5,6,7,18,24],[1,2,5,6,7,18,24],[1,2,5,6,7,18,24],[1,2,5,6,7,18,24],[2,5,6,7],[1,2,5,6,7,39],[2,5,6,7],[4]])
def ko:aI:=⟨58,mkC rF.1,[.tmp 4],.false,.false⟩
theorem y0:OkF 61 ko:=okq func61
def lk:=cv (a:=gT f62 [[1],[2]])
def eQ:aI:=⟨7,mkC lk.1,[.tmp 2],.false,.false⟩
theorem pF:OkF 62 eQ:=okq func62
def qq:=cv (a:=gT f66 [[0],[2]])
def ja:aI:=⟨5,mkC qq.1,[.tmp 2],.false,.false⟩
theorem vP:OkF 66 ja:=okq func66
def Bv:=cv (a:=gT f72 [[0,1],[4]])
def rg:aI:=⟨9,mkC Bv.1,[.tmp 4],.false,.false⟩
theorem H7:OkF 72 rg:=okq func72
def u7:=cv (a:=gT f88 [[0,1,2],[6]])
def nf:aI:=⟨15,mkC u7.1,[.tmp 6],.false,.false⟩
theorem zV:OkF 88 nf:=okq func88
def pX:=cv (a:=gT f89 [[1,2],[1,2,9],[4],[1,2,5],[2,52],[4],[2,55],[4],[4]])
def jg:aI:=⟨62,mkC pX.1,[.tmp 4],.false,.false⟩
theorem vD:OkF 89 jg:=okq func89
def kA:=cv (a:=gT f90 [[1,2],[1,2,5],[1,2,5,6],[1,2,5,6,11],[1,2,5,6],[1,2,5,6],[4]] [(.close [6009])])
def iy:aI:=⟨26,mkC kA.1,[.tmp 4],.false,.false⟩
def mo:=cv (a:=lp kA.1 0)
def lY:aw:=mkC mo.1
theorem tF:OkF 90 iy:=okq func90
def mT:=cv (a:=gT f91 [[1],[1,4],[1,4,5],[1,4,5,6],[1,4,5,6,7],[1,4,5,6,7,8],[1,4,5,6,7,8,9],[1,4,5,6,7,8,9,21],[1,4,5,6,7,8,9,30],[1,4,5,6,7,8,9],[1,4,5,6,7,8,9],[1,4,5,6,7,8,9],[1,4,5,6,7,8,9],[1,4,5,6,7,8,9],[2,3]] [(.close [12002,12003,13004,13005])])
def jc:aI:=⟨47,mkC mT.1,[.tmp 2,.tmp 3],.false,.false⟩
def nL:=cv (a:=lp mT.1 0)
def nT:aw:=mkC nL.1
theorem wc:OkF 91 jc:=okq func91
def kv:=cv (a:=gT f92 [[0,1,2,3],[0,1,2,3,9],[0,1,2,3,9,35],[0,1,2,3,9],[0,1,2,3,9,59],[0,1,2,9,10],[0,1,2,9,10,11],[0,1,2,9,10,11,75],[0,9,11],[8],[8]] [(.close [])])
def ip:aI:=⟨103,mkC kv.1,[.tmp 8],.false,.false⟩
def mH:=cv (a:=lp kv.1 0)
def mG:aw:=mkC mH.1
theorem tD:OkF 92 ip:=okq func92
def sk:=cv (a:=gT f93 [[1,2],[1,2,3],[1,2,3],[1,2,3],[1,2,3],[2,3],[2]])
def kS:aI:=⟨17,mkC sk.1,[.cell 2 (.some 4)],.false,.false⟩
theorem xF:OkF 93 kS:=okq func93
def mM:=cv (a:=gT f94 [[0,2,5,7],[0,2,5,7,8],[0,2,5,7,8,11],[0,2,5,7,8,11,12],[],[0,2,5,7,8,11,21],[],[0,2,5,7,8,11,35],[],[0,2,5,7,8,11,49],[],[0,2,5,7,8,11,63],[0,2,5,8],[],[0,2,5,7,8,79],[0,2,5,8],[]])
def fF:aI:=⟨100,mkC mM.1,[],.false,.false⟩
theorem qA:OkF 94 fF:=okq func94
def qa:=cv (a:=gT f96 [[2,3],[2,3,9],[4],[2,3,14],[4],[19],[4],[4]])
def ji:aI:=⟨20,mkC qa.1,[.tmp 4],.false,.false⟩
theorem wy:OkF 96 ji:=okq func96
def sw:=cv (a:=gT f97 [[2,3],[2,3,9],[4],[2,3,14],[4],[2,3,19],[4],[24],[4],[4]])
def ky:aI:=⟨25,mkC sw.1,[.tmp 4],.false,.false⟩
theorem yW:OkF 97 ky:=okq func97
def pN:=cv (a:=gT f100 [[0],[0,3],[2],[6],[2],[2]])
def je:aI:=⟨9,mkC pN.1,[.tmp 2],.false,.false⟩
theorem wd:OkF 100 je:=okq func100
def sj:=cv (a:=gT f105 [[0,1],[4]])
def kq:aI:=⟨9,mkC sj.1,[.tmp 4],.false,.false⟩
theorem ym:OkF 105 kq:=okq func105
def qf:=cv (a:=gT f130 [[0],[2]])
def jf:aI:=⟨5,mkC qf.1,[.tmp 2],.false,.false⟩
theorem vd:OkF 130 jf:=okq func130
def rz:=cv (a:=gT f131 [[0],[3],[2],[2]])
def kD:aI:=⟨4,mkC rz.1,[.tmp 2],.false,.false⟩
theorem xl:OkF 131 kD:=okq func131
def o5:=cv (a:=gT f132 [[1],[1,3],[3,4],[3,4,5],[3,4,5,21],[3,4,5],[2]] [(.close [])])
def kz:aI:=⟨25,mkC o5.1,[.tmp 2],.false,.false⟩
def pd:=cv (a:=lp o5.1 0)
def oq:aw:=mkC pd.1
theorem xN:OkF 132 kz:=okq func132
def jN:=cv (a:=gT f133 [[0,1,2],[5]])
def dY:aI:=⟨13,mkC jN.1,[.tmp 5],.true,.false⟩
theorem oP:OkF 133 dY:=okq func133
def jC:=cv (a:=gT f134 [[0,2,3,11,12,13],[0,2,3,11,12,13,14],[0,2,3,9,11,12,13],[0,2,3,9,10,11,12,13],[0,2,3,11,12,13],[0,2,3,11,12,13],[0],[]] [(.close [3002,4007,5013])])
def gR:aI:=⟨70,mkC jC.1,[],.false,.false⟩
def l5:=cv (a:=lp jC.1 0)
def ld:aw:=mkC l5.1
theorem sq:OkF 134 gR:=okq func134
end Go.AI.Fn
