/- Codes. -/
import Derived.Test.YtgjlndaebhaciaaTb0
set_option linter.unusedVariables false
set_option maxRecDepth 100000
set_option maxHeartbeats 2000000
namespace Go.AI.Fn
open Proofs.Try
def im:=cv (a:=gT f3 [[1],[1,3],[1,3],[1,18],[2],[1,4,5],[1,4,5,6],[1,4,5,6,7,8],[1,4,5,6,7,8,40],[2],[1,4,5,6,7,8,45],[2],[1,4,5,6,7,8,9],[1,4,5,7,8,9],[1,4,5,7,61],[2],[1,4,5,7,10],[1,4,5,7,10],[1,4,5,7,10,11],[1,4,5,7,10,11],[1,4,5,7,10,11,69],[2],[1,4,5,7,10,72],[2],[4,5,7,10,12,13],[7,10,87],[2],[7,10,11],[10,11],[10,11,92],[2],[95],[2],[2]])
def a_w_FnExactSystemOf:aI:=⟨96,mkC im.1,[.tmp 2],.false,.false⟩
theorem mi:OkF 3 a_w_FnExactSystemOf:=okq func3
def nN:=cv (a:=gT f7 [[1,2],[1],[1,10],[4],[4]])
def gL:aI:=⟨12,mkC nN.1,[.tmp 4],.false,.false⟩
theorem sG:OkF 7 gL:=okq func7
def oU:=cv (a:=gT f8 [[1,2],[1,2,6],[2,3],[2,3]])
def ir:aI:=⟨10,mkC oU.1,[.cell 2 (.some 6),.tmp 3],.false,.false⟩
theorem tp:OkF 8 ir:=okq func8
def mz:=cv (a:=gT f9 [[1,2],[1,2,3],[2,3],[2]])
def fA:aI:=⟨9,mkC mz.1,[.cell 2 (.some 1)],.true,.false⟩
theorem qM:OkF 9 fA:=okq func9
def nD:=cv (a:=gT f10 [[1,2],[1,2,6],[2,3],[2,3]] [] [(999999,.nilCell 1001 3 999900 3),(999999,.nilCell 1001 4 999901 3),(999999,.nilCell 1001 5 999902 3)])
def gI:aI:=⟨10,mkC nD.1,[.cell 2 (.some 6),.tmp 3],.true,.false⟩
theorem sm:OkF 10 gI:=okq func10
def oP:=cv (a:=gT f11 [[2,3],[2,3,9],[4],[2,3,14],[4],[2,3,19],[4],[2,3,25],[4],[2,3,31],[4],[37],[4],[4]])
def ix:aI:=⟨38,mkC oP.1,[.tmp 4],.false,.false⟩
theorem tL:OkF 11 ix:=okq func11
def ny:=cv (a:=gT f12 [[2,3],[10],[4],[4]])
def gK:aI:=⟨11,mkC ny.1,[.tmp 4],.false,.false⟩
theorem sg:OkF 12 gK:=okq func12
def lG:=cv (a:=gT f13 [[1,2],[1],[4]])
def eV:aI:=⟨10,mkC lG.1,[.tmp 4],.false,.false⟩
theorem pk:OkF 13 eV:=okq func13
def md:=cv (a:=gT f14 [[1,2],[1,2],[1,2],[1],[4]])
def fO:aI:=⟨18,mkC md.1,[.tmp 4],.false,.false⟩
theorem qE:OkF 14 fO:=okq func14
def lY:=cv (a:=gT f15 [[1,2],[1,2],[1,2,10],[4],[1,2],[1,2,16],[4],[1],[1,22],[4],[4]])
def fN:aI:=⟨24,mkC lY.1,[.tmp 4],.false,.false⟩
theorem qO:OkF 15 fN:=okq func15
def jw:=cv (a:=gT f22 [[1],[1,9],[2],[1,11,12,13],[1,11,12,13,14],[1,3,4,11,12,13],[1,11,12,13,21],[2],[1,11,12,13],[2]] [(.close [6003,7002])])
def gS:aI:=⟨26,mkC jw.1,[.tmp 2],.false,.false⟩
def kV:=cv (a:=lp jw.1 0)
def lF:aw:=mkC kV.1
theorem tf:OkF 22 gS:=okq func22
def pP:=cv (a:=gT f39 [[0,1],[1],[1,10],[4],[4]])
def ja:aI:=⟨12,mkC pP.1,[.tmp 4],.false,.false⟩
theorem va:OkF 39 ja:=okq func39
def jI:=cv (a:=gT f40 [[1],[1,8],[2],[1,3],[1,3,13],[1,3,23],[2],[1,3],[2]] [(.close [7006])])
def gz:aI:=⟨27,mkC jI.1,[.tmp 2],.false,.false⟩
def kZ:=cv (a:=lp jI.1 0)
def lj:aw:=mkC kZ.1
theorem s7:OkF 40 gz:=okq func40
def gR:=cv (a:=gT f41 [[1,2],[1,2,3,4],[1,2,3,5],[1,2,3,5,6],[1,2,3,5,6,7],[1,2,3,5,6,7,26],[1,2,3,5,6,7,8],[1,2,3,5,6,7,8,35],[1,2,3,5,6,7,8,35,36],[1,2,3,5,6,7,8,35,36],[1,2,3,5,6,7,8,35,39],[1,2,3,5,6,7,8],[1,2,3,5,6,7],[1,2,3,5,6,7,8,35,61],[1,2,3,5,6,7,8,35,61],[1,2,3,5,6,7,8],[1,2,3,5,6,7,8,9],[1,2,3,5,6,7,8,9,76],[1,2,3,5,6,7,8,9],[1,2,3,5,6,7],[1,2,3,5,6,7],[1,2,3,5,6,7,8,35,93],[1,2,3,5,6,7,8,97],[1,2,3,5,6,7],[1,2,3,5,6,7],[1,2,3,5,6,7,8,35,110],[1,2,3,5,6,7,8],[1,2,3,5,6,7,8],[1,2,3,5,6,7,8],[1,2,3,5,6,7,8],[1,2,3,5,6,7],[1,2,3,5,6,7],[1,2,3,5,6,7,8,153],[1,2,3,5,6,7,8],[1,2,3,5,6,7,8],[1,2,3,5,6,7,8],[1,2,3,5,6,7,8],[1,2,3,5,6,7],[1,2,3,5,6,7],[1,2,3,5,6,7],[1,2,3,5,6,7],[1,2,3,5,6,7],[2,5,6],[2,5,6,218],[2,5,6],[2]] [(.close [8005,13008,14008,17008,21009,22003,25005,26003,28008,29003,30007,32008,33003,35008,36008,37007,39008,40003,41007,3003,3004,3005]),(.close [])])
def gG:aI:=⟨224,mkC gR.1,[.cell 2 (.some 6)],.false,.false⟩
def kU:=cv (a:=lp gR.1 0)
def lx:aw:=mkC kU.1
def kg:=cv (a:=lp gR.1 1)
def ke:aw:=mkC kg.1
theorem rU:OkF 41 gG:=okq func41
def m9:=cv (a:=gT f42 [[0],[0,3],[0,3,4],[0,3,4,11],[0,3,4],[0,3,4],[2]] [(.close [6006])])
def jr:aI:=⟨23,mkC m9.1,[.tmp 2],.true,.false⟩
def nF:=cv (a:=lp m9.1 0)
def nS:aw:=mkC nF.1
theorem v8:OkF 42 jr:=okq func42
def bN:=cv (a:=gT f43 [[1,2],[1,2,3],[1,2,3,4],[1,2,3,4,29],[1,2,3,4],[1,2,3,5,6,7],[1,2,3,5,6,7,38,39,40],[1,2,3,5,6,7,38,39,40,41],[1,2,3,5,6,7,9,38,39,40],[1,2,3,5,6,7,38,39,40,46],[1,2,3,5,6,7,38,39,40],[1,2,3,5,6,7,38,39,40],[1,2,3,5,6,7,38,39,40],[1,2,3,5,10],[2,3,5,10,66,67,68],[2,3,5,10,66,67,68,69],[2,3,5,10,11,12,66,67,68],[2,3,5,10,66,67,68],[2,3,5,10,66,67,68],[2,3,5,10,66,67,68,69,89],[2,3,5,10,66,67,68,69],[2,3],[2]] [(.close [4001]),(.close [9002,11002,11003,12002,12003]),(.close [17003,18007]),(.close [])])
def cO:aI:=⟨113,mkC bN.1,[.cell 2 (.some 6)],.true,.false⟩
def gj:=cv (a:=lp bN.1 0)
def gc:aw:=mkC gj.1
def gg:=cv (a:=lp bN.1 1)
def gi:aw:=mkC gg.1
def fx:=cv (a:=lp bN.1 2)
def fC:aw:=mkC fx.1
def fG:=cv (a:=lp bN.1 3)
def fR:aw:=mkC fG.1
theorem mm:OkF 43 cO:=okq func43
def kI:=cv (a:=gT f44 [[0,1],[0,1,10],[4],[0,1,5],[0,1,5,14],[0,1,5,26],[4],[0,1,5],[4]] [(.close [7008])])
def iA:aI:=⟨27,mkC kI.1,[.tmp 4],.false,.false⟩
def lV:=cv (a:=lp kI.1 0)
def ms:aw:=mkC lV.1
theorem tD:OkF 44 iA:=okq func44
def mS:=cv (a:=gT f45 [[0,1],[0,1,10],[4],[0,1,5],[0,1,5,14],[0,1,5,26],[4],[0,1,5],[4]] [(.close [7008])])
def jp:aI:=⟨27,mkC mS.1,[.tmp 4],.false,.false⟩
def nQ:=cv (a:=lp mS.1 0)
def nG:aw:=mkC nQ.1
theorem vp:OkF 45 jp:=okq func45
def jx:=cv (a:=gT f46 [[0,1],[0,1,5],[0,1,5,9],[0,1,5],[0,1,5],[0,1,5],[0,1,5],[0,1,5],[0,1,5],[0,1,5],[0,1,5],[0,1,5],[4]] [(.close [])])
def gV:aI:=⟨41,mkC jx.1,[.tmp 4],.false,.false⟩
def l0:=cv (a:=lp jx.1 0)
def lh:aw:=mkC l0.1
theorem rX:OkF 46 gV:=okq func46
def iO:=cv (a:=gT f47 [[0,1],[0,1,5],[0,1,5,9],[0,1,5],[0,1,5],[0,1,5],[0,1,5],[0,1,5],[0,1,5],[0,1,5],[4]] [(.close [])])
def fP:aI:=⟨34,mkC iO.1,[.tmp 4],.false,.false⟩
def jV:=cv (a:=lp iO.1 0)
def jN:aw:=mkC jV.1
theorem qv:OkF 47 fP:=okq func47
def iM:=cv (a:=gT f48 [[0,1],[0,1,5],[0,1,5,9],[0,1,5,18],[4],[0,1,5],[0,1,5,27],[4],[0,1,5],[0,1,5,36],[4],[0,1,5],[0,1,5],[4]] [(.close [])])
def fL:aI:=⟨40,mkC iM.1,[.tmp 4],.false,.false⟩
def jM:=cv (a:=lp iM.1 0)
def jU:aw:=mkC jM.1
theorem qC:OkF 48 fL:=okq func48
def IY:=cv (a:=gT f59 [[0,1,2],[6]])
def wl:aI:=⟨15,mkC IY.1,[.tmp 6],.false,.false⟩
theorem M7:OkF 59 wl:=okq func59
def ej:=cv (a:=gT f60 [[1,2],[1,2,5],[1,5,9,10,11],[1,5,9,10,11,12],[1,5,7,9,10,11],[1,5,9,10,11,18],[1,5,9,10,11],[1,5,9,10,11],[4]] [(.close [5002])])
def cN:aI:=⟨23,mkC ej.1,[.tmp 4],.false,.false⟩
def g6:=cv (a:=lp ej.1 0)
def fU:aw:=mkC g6.1
theorem mO:OkF 60 cN:=okq func60
def rJ:=cv (a:=gT f61 [[1,2],[1,2,5,6,7],[1,2,5,6,7,18],[1,2,5,6,7,18,19],[2,5,6,7],[1,2,5,6,7,18,24],[1,2,5,6,7,18,24],[1,2,5,6,7,18,24],[1,2,5,6,7,18,24],[2,5,6,7],[1,2,5,6,7,39],[2,5,6,7],[4]])
def kn:aI:=⟨58,mkC rJ.1,[.tmp 4],.false,.false⟩
theorem yz:OkF 61 kn:=okq func61
def lv:=cv (a:=gT f62 [[1],[2]])
def eQ:aI:=⟨7,mkC lv.1,[.tmp 2],.false,.false⟩
theorem pm:OkF 62 eQ:=okq func62
def qh:=cv (a:=gT f66 [[0],[2]])
def jm:aI:=⟨5,mkC qh.1,[.tmp 2],.false,.false⟩
theorem vK:OkF 66 jm:=okq func66
def Bl:=cv (a:=gT f72 [[0,1],[4]])
def qV:aI:=⟨9,mkC Bl.1,[.tmp 4],.false,.false⟩
theorem IS:OkF 72 qV:=okq func72
def uw:=cv (a:=gT f88 [[0,1,2],[6]])
def mY:aI:=⟨15,mkC uw.1,[.tmp 6],.false,.false⟩
theorem zV:OkF 88 mY:=okq func88
def pQ:=cv (a:=gT f89 [[1,2],[1,2,9],[4],[1,2,5],[2,52],[4],[2,55],[4],[4]])
def je:aI:=⟨62,mkC pQ.1,[.tmp 4],.false,.false⟩
theorem uH:OkF 89 je:=okq func89
def kC:=cv (a:=gT f90 [[1,2],[1,2,5],[1,2,5,6],[1,2,5,6,11],[1,2,5,6],[1,2,5,6],[4]] [(.close [6009])])
def is:aI:=⟨26,mkC kC.1,[.tmp 4],.false,.false⟩
def lS:=cv (a:=lp kC.1 0)
def m8:aw:=mkC lS.1
theorem tY:OkF 90 is:=okq func90
def mg:=cv (a:=gT f91 [[1],[1,4],[1,4,5],[1,4,5,6],[1,4,5,6,7],[1,4,5,6,7,8],[1,4,5,6,7,8,9],[1,4,5,6,7,8,9,21],[1,4,5,6,7,8,9,30],[1,4,5,6,7,8,9],[1,4,5,6,7,8,9],[1,4,5,6,7,8,9],[1,4,5,6,7,8,9],[1,4,5,6,7,8,9],[2,3]] [(.close [12002,12003,13004,13005])])
def js:aI:=⟨47,mkC mg.1,[.tmp 2,.tmp 3],.false,.false⟩
def nw:=cv (a:=lp mg.1 0)
def nO:aw:=mkC nw.1
theorem w7:OkF 91 js:=okq func91
def kJ:=cv (a:=gT f92 [[0,1,2,3],[0,1,2,3,9],[0,1,2,3,9,35],[0,1,2,3,9],[0,1,2,3,9,59],[0,1,2,9,10],[0,1,2,9,10,11],[0,1,2,9,10,11,75],[0,9,11],[8],[8]] [(.close [])])
def iv:aI:=⟨103,mkC kJ.1,[.tmp 8],.false,.false⟩
def lQ:=cv (a:=lp kJ.1 0)
def lP:aw:=mkC lQ.1
theorem to:OkF 92 iv:=okq func92
def rq:=cv (a:=gT f93 [[1,2],[1,2,3],[1,2,3],[1,2,3],[1,2,3],[2,3],[2]])
def ku:aI:=⟨17,mkC rq.1,[.cell 2 (.some 4)],.false,.false⟩
theorem wZ:OkF 93 ku:=okq func93
def mj:=cv (a:=gT f94 [[0,2,5,7],[0,2,5,7,8],[0,2,5,7,8,11],[0,2,5,7,8,11,12],[],[0,2,5,7,8,11,21],[],[0,2,5,7,8,11,35],[],[0,2,5,7,8,11,49],[],[0,2,5,7,8,11,63],[0,2,5,8],[],[0,2,5,7,8,79],[0,2,5,8],[]])
def fE:aI:=⟨100,mkC mj.1,[],.false,.false⟩
theorem qU:OkF 94 fE:=okq func94
def pU:=cv (a:=gT f96 [[2,3],[2,3,9],[4],[2,3,14],[4],[19],[4],[4]])
def jf:aI:=⟨20,mkC pU.1,[.tmp 4],.false,.false⟩
theorem wu:OkF 96 jf:=okq func96
def ru:=cv (a:=gT f97 [[2,3],[2,3,9],[4],[2,3,14],[4],[2,3,19],[4],[24],[4],[4]])
def ky:aI:=⟨25,mkC ru.1,[.tmp 4],.false,.false⟩
theorem yy:OkF 97 ky:=okq func97
def pZ:=cv (a:=gT f100 [[0],[0,3],[2],[6],[2],[2]])
def jg:aI:=⟨9,mkC pZ.1,[.tmp 2],.false,.false⟩
theorem uX:OkF 100 jg:=okq func100
def ti:=cv (a:=gT f105 [[0,1],[4]])
def kF:aI:=⟨9,mkC ti.1,[.tmp 4],.false,.false⟩
theorem yr:OkF 105 kF:=okq func105
def qf:=cv (a:=gT f130 [[0],[2]])
def jn:aI:=⟨5,mkC qf.1,[.tmp 2],.false,.false⟩
theorem wk:OkF 130 jn:=okq func130
def rQ:=cv (a:=gT f131 [[0],[3],[2],[2]])
def kN:aI:=⟨4,mkC rQ.1,[.tmp 2],.false,.false⟩
theorem xq:OkF 131 kN:=okq func131
def og:=cv (a:=gT f132 [[1],[1,3],[3,4],[3,4,5],[3,4,5,21],[3,4,5],[2]] [(.close [])])
def kB:aI:=⟨25,mkC og.1,[.tmp 2],.false,.false⟩
def oA:=cv (a:=lp og.1 0)
def oq:aw:=mkC oA.1
theorem wN:OkF 132 kB:=okq func132
def km:=cv (a:=gT f133 [[0,1,2],[5]])
def dW:aI:=⟨13,mkC km.1,[.tmp 5],.true,.false⟩
theorem oV:OkF 133 dW:=okq func133
def jz:=cv (a:=gT f134 [[0,2,3,11,12,13],[0,2,3,11,12,13,14],[0,2,3,9,11,12,13],[0,2,3,9,10,11,12,13],[0,2,3,11,12,13],[0,2,3,11,12,13],[0],[]] [(.close [3002,4007,5013])])
def gX:aI:=⟨70,mkC jz.1,[],.false,.false⟩
def ln:=cv (a:=lp jz.1 0)
def ll:aw:=mkC ln.1
theorem sF:OkF 134 gX:=okq func134
end Go.AI.Fn
