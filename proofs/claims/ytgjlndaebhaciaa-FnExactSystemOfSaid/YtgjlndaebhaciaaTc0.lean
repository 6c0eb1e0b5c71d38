/- Codes. -/
import Derived.Test.YtgjlndaebhaciaaTb0
set_option linter.unusedVariables false
set_option maxRecDepth 100000
set_option maxHeartbeats 2000000
namespace Go.AI.Fn
open Proofs.Try
def io:=cv (a:=gT f3 [[1],[1,3],[1,3],[1,18],[2],[1,4,5],[1,4,5,6],[1,4,5,6,7,8],[1,4,5,6,7,8,40],[2],[1,4,5,6,7,8,45],[2],[1,4,5,6,7,8,9],[1,4,5,7,8,9],[1,4,5,7,61],[2],[1,4,5,7,10],[1,4,5,7,10],[1,4,5,7,10,11],[1,4,5,7,10,11],[1,4,5,7,10,11,69],[2],[1,4,5,7,10,72],[2],[4,5,7,10,12,13],[7,10,87],[2],[7,10,11],[10,11],[10,11,92],[2],[95],[2],[2]])
def a_w_FnExactSystemOf:aJ:=⟨96,mkC io.1,[.tmp 2],.false,.false⟩
theorem lS:OkF 3 a_w_FnExactSystemOf:=okq func3
def nu:=cv (a:=gT f7 [[1,2],[1],[1,10],[4],[4]])
def gS:aJ:=⟨12,mkC nu.1,[.tmp 4],.false,.false⟩
theorem rm:OkF 7 gS:=okq func7
def oo:=cv (a:=gT f8 [[1,2],[1,2,6],[2,3],[2,3]])
def iz:aJ:=⟨10,mkC oo.1,[.cell 2 (.some 6),.tmp 3],.false,.false⟩
theorem tR:OkF 8 iz:=okq func8
def mi:=cv (a:=gT f9 [[1,2],[1,2,3],[2,3],[2]])
def fI:aJ:=⟨9,mkC mi.1,[.cell 2 (.some 1)],.true,.false⟩
theorem qE:OkF 9 fI:=okq func9
def nF:=cv (a:=gT f10 [[1,2],[1,2,6],[2,3],[2,3]] [] [(999999,.nilCell 1001 3 999900 3),(999999,.nilCell 1001 4 999901 3),(999999,.nilCell 1001 5 999902 3)])
def gB:aJ:=⟨10,mkC nF.1,[.cell 2 (.some 6),.tmp 3],.true,.false⟩
theorem sJ:OkF 10 gB:=okq func10
def oV:=cv (a:=gT f11 [[2,3],[2,3,9],[4],[2,3,14],[4],[2,3,19],[4],[2,3,25],[4],[2,3,31],[4],[37],[4],[4]])
def iv:aJ:=⟨38,mkC oV.1,[.tmp 4],.false,.false⟩
theorem to:OkF 11 iv:=okq func11
def nU:=cv (a:=gT f12 [[2,3],[10],[4],[4]])
def gK:aJ:=⟨11,mkC nU.1,[.tmp 4],.false,.false⟩
theorem tc:OkF 12 gK:=okq func12
def kX:=cv (a:=gT f13 [[1,2],[1],[4]])
def eV:aJ:=⟨10,mkC kX.1,[.tmp 4],.false,.false⟩
theorem pj:OkF 13 eV:=okq func13
def lO:=cv (a:=gT f14 [[1,2],[1,2],[1,2],[1],[4]])
def fR:aJ:=⟨18,mkC lO.1,[.tmp 4],.false,.false⟩
theorem qv:OkF 14 fR:=okq func14
def mI:=cv (a:=gT f15 [[1,2],[1,2],[1,2,10],[4],[1,2],[1,2,16],[4],[1],[1,22],[4],[4]])
def fu:aJ:=⟨24,mkC mI.1,[.tmp 4],.false,.false⟩
theorem qt:OkF 15 fu:=okq func15
def jF:=cv (a:=gT f22 [[1],[1,9],[2],[1,11,12,13],[1,11,12,13,14],[1,3,4,11,12,13],[1,11,12,13,21],[2],[1,11,12,13],[2]] [(.close [6003,7002])])
def gR:aJ:=⟨26,mkC jF.1,[.tmp 2],.false,.false⟩
def lk:=cv (a:=lp jF.1 0)
def kV:aA:=mkC lk.1
theorem rT:OkF 22 gR:=okq func22
def pY:=cv (a:=gT f39 [[0,1],[1],[1,10],[4],[4]])
def jc:aJ:=⟨12,mkC pY.1,[.tmp 4],.false,.false⟩
theorem vm:OkF 39 jc:=okq func39
def jI:=cv (a:=gT f40 [[1],[1,8],[2],[1,3],[1,3,13],[1,3,23],[2],[1,3],[2]] [(.close [7006])])
def gU:aJ:=⟨27,mkC jI.1,[.tmp 2],.false,.false⟩
def lx:=cv (a:=lp jI.1 0)
def lh:aA:=mkC lx.1
theorem rO:OkF 40 gU:=okq func40
def gJ:=cv (a:=gT f41 [[1,2],[1,2,3,4],[1,2,3,5],[1,2,3,5,6],[1,2,3,5,6,7],[1,2,3,5,6,7,26],[1,2,3,5,6,7,8],[1,2,3,5,6,7,8,35],[1,2,3,5,6,7,8,35,36],[1,2,3,5,6,7,8,35,36],[1,2,3,5,6,7,8,35,39],[1,2,3,5,6,7,8],[1,2,3,5,6,7],[1,2,3,5,6,7,8,35,61],[1,2,3,5,6,7,8,35,61],[1,2,3,5,6,7,8],[1,2,3,5,6,7,8,9],[1,2,3,5,6,7,8,9,76],[1,2,3,5,6,7,8,9],[1,2,3,5,6,7],[1,2,3,5,6,7],[1,2,3,5,6,7,8,35,93],[1,2,3,5,6,7,8,97],[1,2,3,5,6,7],[1,2,3,5,6,7],[1,2,3,5,6,7,8,35,110],[1,2,3,5,6,7,8],[1,2,3,5,6,7,8],[1,2,3,5,6,7,8],[1,2,3,5,6,7,8],[1,2,3,5,6,7],[1,2,3,5,6,7],[1,2,3,5,6,7,8,153],[1,2,3,5,6,7,8],[1,2,3,5,6,7,8],[1,2,3,5,6,7,8],[1,2,3,5,6,7,8],[1,2,3,5,6,7],[1,2,3,5,6,7],[1,2,3,5,6,7],[1,2,3,5,6,7],[1,2,3,5,6,7],[2,5,6],[2,5,6,218],[2,5,6],[2]] [(.close [8005,13008,14008,17008,21009,22003,25005,26003,28008,29003,30007,32008,33003,35008,36008,37007,39008,40003,41007,3003,3004,3005]),(.close [])])
def gI:aJ:=⟨224,mkC gJ.1,[.cell 2 (.some 6)],.false,.false⟩
def ll:=cv (a:=lp gJ.1 0)
def lm:aA:=mkC ll.1
def jL:=cv (a:=lp gJ.1 1)
def ka:aA:=mkC jL.1
theorem sj:OkF 41 gI:=okq func41
def lQ:=cv (a:=gT f42 [[0],[0,3],[0,3,4],[0,3,4,11],[0,3,4],[0,3,4],[2]] [(.close [6006])])
def jn:aJ:=⟨23,mkC lQ.1,[.tmp 2],.true,.false⟩
def nr:=cv (a:=lp lQ.1 0)
def nI:aA:=mkC nr.1
theorem vZ:OkF 42 jn:=okq func42
def bN:=cv (a:=gT f43 [[1,2],[1,2,3],[1,2,3,4],[1,2,3,4,29],[1,2,3,4],[1,2,3,5,6,7],[1,2,3,5,6,7,38,39,40],[1,2,3,5,6,7,38,39,40,41],[1,2,3,5,6,7,9,38,39,40],[1,2,3,5,6,7,38,39,40,46],[1,2,3,5,6,7,38,39,40],[1,2,3,5,6,7,38,39,40],[1,2,3,5,6,7,38,39,40],[1,2,3,5,10],[2,3,5,10,66,67,68],[2,3,5,10,66,67,68,69],[2,3,5,10,11,12,66,67,68],[2,3,5,10,66,67,68],[2,3,5,10,66,67,68],[2,3,5,10,66,67,68,69,89],[2,3,5,10,66,67,68,69],[2,3],[2]] [(.close [4001]),(.close [9002,11002,11003,12002,12003]),(.close [17003,18007]),(.close [])])
def cN:aJ:=⟨113,mkC bN.1,[.cell 2 (.some 6)],.true,.false⟩
def ga:=cv (a:=lp bN.1 0)
def gk:aA:=mkC ga.1
def gg:=cv (a:=lp bN.1 1)
def gc:aA:=mkC gg.1
def fH:=cv (a:=lp bN.1 2)
def fx:aA:=mkC fH.1
def fD:=cv (a:=lp bN.1 3)
def fG:aA:=mkC fD.1
theorem lY:OkF 43 cN:=okq func43
def ky:=cv (a:=gT f44 [[0,1],[0,1,10],[4],[0,1,5],[0,1,5,14],[0,1,5,26],[4],[0,1,5],[4]] [(.close [7008])])
def iB:aJ:=⟨27,mkC ky.1,[.tmp 4],.false,.false⟩
def mH:=cv (a:=lp ky.1 0)
def mE:aA:=mkC mH.1
theorem tL:OkF 44 iB:=okq func44
def mU:=cv (a:=gT f45 [[0,1],[0,1,10],[4],[0,1,5],[0,1,5,14],[0,1,5,26],[4],[0,1,5],[4]] [(.close [7008])])
def jk:aJ:=⟨27,mkC mU.1,[.tmp 4],.false,.false⟩
def nM:=cv (a:=lp mU.1 0)
def nK:aA:=mkC nM.1
theorem vL:OkF 45 jk:=okq func45
def jG:=cv (a:=gT f46 [[0,1],[0,1,5],[0,1,5,9],[0,1,5],[0,1,5],[0,1,5],[0,1,5],[0,1,5],[0,1,5],[0,1,5],[0,1,5],[0,1,5],[4]] [(.close [])])
def gN:aJ:=⟨41,mkC jG.1,[.tmp 4],.false,.false⟩
def lf:=cv (a:=lp jG.1 0)
def lF:aA:=mkC lf.1
theorem rt:OkF 46 gN:=okq func46
def j0:=cv (a:=gT f47 [[0,1],[0,1,5],[0,1,5,9],[0,1,5],[0,1,5],[0,1,5],[0,1,5],[0,1,5],[0,1,5],[0,1,5],[4]] [(.close [])])
def fL:aJ:=⟨34,mkC j0.1,[.tmp 4],.false,.false⟩
def jX:=cv (a:=lp j0.1 0)
def jM:aA:=mkC jX.1
theorem qF:OkF 47 fL:=okq func47
def iV:=cv (a:=gT f48 [[0,1],[0,1,5],[0,1,5,9],[0,1,5,18],[4],[0,1,5],[0,1,5,27],[4],[0,1,5],[0,1,5,36],[4],[0,1,5],[0,1,5],[4]] [(.close [])])
def ft:aJ:=⟨40,mkC iV.1,[.tmp 4],.false,.false⟩
def kh:=cv (a:=lp iV.1 0)
def jZ:aA:=mkC kh.1
theorem qP:OkF 48 ft:=okq func48
def Ho:=cv (a:=gT f59 [[0,1,2],[6]])
def uX:aJ:=⟨15,mkC Ho.1,[.tmp 6],.false,.false⟩
theorem LH:OkF 59 uX:=okq func59
def eo:=cv (a:=gT f60 [[1,2],[1,2,5],[1,5,9,10,11],[1,5,9,10,11,12],[1,5,7,9,10,11],[1,5,9,10,11,18],[1,5,9,10,11],[1,5,9,10,11],[4]] [(.close [5002])])
def cO:aJ:=⟨23,mkC eo.1,[.tmp 4],.false,.false⟩
def gn:=cv (a:=lp eo.1 0)
def gp:aA:=mkC gn.1
theorem mb:OkF 60 cO:=okq func60
def rV:=cv (a:=gT f61 [[1,2],[1,2,5,6,7],[1,2,5,6,7,18],[1,2,5,6,7,18,19],[2,5,6,7],[1,2,5,6,7,18,24],[1,2,5,6,7,18,24],[1,2,5,6,7,18,24],[1,2,5,6,7,18,24],[2,5,6,7],[1,2,5,6,7,39],[2,5,6,7],[4]])
def kv:aJ:=⟨58,mkC rV.1,[.tmp 4],.false,.false⟩
theorem yH:OkF 61 kv:=okq func61
def ld:=cv (a:=gT f62 [[1],[2]])
def eU:aJ:=⟨7,mkC ld.1,[.tmp 2],.false,.false⟩
theorem pC:OkF 62 eU:=okq func62
def pN:=cv (a:=gT f66 [[0],[2]])
def jt:aJ:=⟨5,mkC pN.1,[.tmp 2],.false,.false⟩
theorem wa:OkF 66 jt:=okq func66
def B9:=cv (a:=gT f72 [[0,1],[4]])
def qW:aJ:=⟨9,mkC B9.1,[.tmp 4],.false,.false⟩
theorem FP:OkF 72 qW:=okq func72
def ug:=cv (a:=gT f88 [[0,1,2],[6]])
def n7:aJ:=⟨15,mkC ug.1,[.tmp 6],.false,.false⟩
theorem AS:OkF 88 n7:=okq func88
def qa:=cv (a:=gT f89 [[1,2],[1,2,9],[4],[1,2,5],[2,52],[4],[2,55],[4],[4]])
def jg:aJ:=⟨62,mkC qa.1,[.tmp 4],.false,.false⟩
theorem w6:OkF 89 jg:=okq func89
def kI:=cv (a:=gT f90 [[1,2],[1,2,5],[1,2,5,6],[1,2,5,6,11],[1,2,5,6],[1,2,5,6],[4]] [(.close [6009])])
def ip:aJ:=⟨26,mkC kI.1,[.tmp 4],.false,.false⟩
def ma:=cv (a:=lp kI.1 0)
def mD:aA:=mkC ma.1
theorem tB:OkF 90 ip:=okq func90
def mm:=cv (a:=gT f91 [[1],[1,4],[1,4,5],[1,4,5,6],[1,4,5,6,7],[1,4,5,6,7,8],[1,4,5,6,7,8,9],[1,4,5,6,7,8,9,21],[1,4,5,6,7,8,9,30],[1,4,5,6,7,8,9],[1,4,5,6,7,8,9],[1,4,5,6,7,8,9],[1,4,5,6,7,8,9],[1,4,5,6,7,8,9],[2,3]] [(.close [12002,12003,13004,13005])])
def jl:aJ:=⟨47,mkC mm.1,[.tmp 2,.tmp 3],.false,.false⟩
def nN:=cv (a:=lp mm.1 0)
def nT:aA:=mkC nN.1
theorem vY:OkF 91 jl:=okq func91
def kK:=cv (a:=gT f92 [[0,1,2,3],[0,1,2,3,9],[0,1,2,3,9,35],[0,1,2,3,9],[0,1,2,3,9,59],[0,1,2,9,10],[0,1,2,9,10,11],[0,1,2,9,10,11,75],[0,9,11],[8],[8]] [(.close [])])
def ix:aJ:=⟨103,mkC kK.1,[.tmp 8],.false,.false⟩
def my:=cv (a:=lp kK.1 0)
def lZ:aA:=mkC my.1
theorem tV:OkF 92 ix:=okq func92
def sV:=cv (a:=gT f93 [[1,2],[1,2,3],[1,2,3],[1,2,3],[1,2,3],[2,3],[2]])
def kL:aJ:=⟨17,mkC sV.1,[.cell 2 (.some 4)],.false,.false⟩
theorem wX:OkF 93 kL:=okq func93
def mO:=cv (a:=gT f94 [[0,2,5,7],[0,2,5,7,8],[0,2,5,7,8,11],[0,2,5,7,8,11,12],[],[0,2,5,7,8,11,21],[],[0,2,5,7,8,11,35],[],[0,2,5,7,8,11,49],[],[0,2,5,7,8,11,63],[0,2,5,8],[],[0,2,5,7,8,79],[0,2,5,8],[]])
def fC:aJ:=⟨100,mkC mO.1,[],.false,.false⟩
theorem qM:OkF 94 fC:=okq func94
def qj:=cv (a:=gT f96 [[2,3],[2,3,9],[4],[2,3,14],[4],[19],[4],[4]])
def jp:aJ:=⟨20,mkC qj.1,[.tmp 4],.false,.false⟩
theorem vX:OkF 96 jp:=okq func96
def rD:=cv (a:=gT f97 [[2,3],[2,3,9],[4],[2,3,14],[4],[2,3,19],[4],[24],[4],[4]])
def kF:aJ:=⟨25,mkC rD.1,[.tmp 4],.false,.false⟩
theorem xc:OkF 97 kF:=okq func97
def pK:=cv (a:=gT f100 [[0],[0,3],[2],[6],[2],[2]])
def jf:aJ:=⟨9,mkC pK.1,[.tmp 2],.false,.false⟩
theorem vc:OkF 100 jf:=okq func100
def sa:=cv (a:=gT f105 [[0,1],[4]])
def kP:aJ:=⟨9,mkC sa.1,[.tmp 4],.false,.false⟩
theorem yx:OkF 105 kP:=okq func105
def pV:=cv (a:=gT f130 [[0],[2]])
def jm:aJ:=⟨5,mkC pV.1,[.tmp 2],.false,.false⟩
theorem w5:OkF 130 jm:=okq func130
def rK:=cv (a:=gT f131 [[0],[3],[2],[2]])
def kH:aJ:=⟨4,mkC rK.1,[.tmp 2],.false,.false⟩
theorem yg:OkF 131 kH:=okq func131
def o0:=cv (a:=gT f132 [[1],[1,3],[3,4],[3,4,5],[3,4,5,21],[3,4,5],[2]] [(.close [])])
def kC:aJ:=⟨25,mkC o0.1,[.tmp 2],.false,.false⟩
def oO:=cv (a:=lp o0.1 0)
def oT:aA:=mkC oO.1
theorem yX:OkF 132 kC:=okq func132
def jS:=cv (a:=gT f133 [[0,1,2],[5]])
def dW:aJ:=⟨13,mkC jS.1,[.tmp 5],.true,.false⟩
theorem oP:OkF 133 dW:=okq func133
def jw:=cv (a:=gT f134 [[0,2,3,11,12,13],[0,2,3,11,12,13,14],[0,2,3,9,11,12,13],[0,2,3,9,10,11,12,13],[0,2,3,11,12,13],[0,2,3,11,12,13],[0],[]] [(.close [3002,4007,5013])])
def gL:aJ:=⟨70,mkC jw.1,[],.false,.false⟩
def l9:=cv (a:=lp jw.1 0)
def l7:aA:=mkC l9.1
theorem sF:OkF 134 gL:=okq func134
end Go.AI.Fn
