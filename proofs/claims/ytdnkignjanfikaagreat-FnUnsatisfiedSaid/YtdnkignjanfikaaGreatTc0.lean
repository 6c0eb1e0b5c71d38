/- Codes. -/
import Derived.Test.YtdnkignjanfikaaGreatTb0
set_option linter.unusedVariables false
set_option maxRecDepth 100000
set_option maxHeartbeats 2000000
namespace Go.AI.Fn
open Proofs.Tryz
def xp:=cv (a:=gT f5 [[0,1],[0,1,31],[4],[0,1,5],[0,1,5,6],[0,1,5,6,7],[0,1,5,6,7,8],[0,1,5,6,7,8,10],[0,1,5,6,7,8,10,12],[0,1,5,7,8,10,12,14],[0,1,7,8,10,14,77],[4],[0,1,7,8,14,79],[4],[1,7,8,14,15],[1,7,8,14,15,16],[7,8,14,15,16,17],[7,8,14,15,16,17,18,19],[7,8,14,15,16,17,19,20,21],[14,19,20,21,23],[4]])
def a_w_FnUnsatisfied:al:=⟨145,mkC xp.1,[.tmp 4],.false,.false⟩
theorem FX:OkF 5 a_w_FnUnsatisfied:=okq func5
def yi:=cv (a:=gT f16 [[2,3,5,6,9,10],[2,3,5,6,9,10,12],[2,3,5,6,9,10,12,21],[10,11],[2,3,5,6,9,10,24],[10,11],[2,3,5,6,9,10,34],[10,11],[2,5,6,9,10,13,14],[2,5,6,9,10,13,47],[10,11],[2,5,6,9,10,13,15],[10,11]])
def lR:al:=⟨64,mkC yi.1,[.cell 10 (.some 17),.tmp 11],.false,.false⟩
theorem GX:OkF 16 lR:=okq func16
def Ey:=cv (a:=gT f22 [[0,2],[2]])
def rH:al:=⟨6,mkC Ey.1,[.cell 2 (.some 1)],.false,.false⟩
theorem N3:OkF 22 rH:=okq func22
def HE:=cv (a:=gT f23 [[0,3,4],[4,5,6],[4]])
def uv:al:=⟨17,mkC HE.1,[.cell 4 (.some 2)],.false,.false⟩
theorem Qi:OkF 23 uv:=okq func23
def Cg:=cv (a:=gT f24 [[1,2,3],[1,2,3,8],[1,2,3,8,16],[6,7],[9,10],[9,26],[6,7],[6,7]])
def oG:al:=⟨28,mkC Cg.1,[.tmp 6,.tmp 7],.false,.false⟩
theorem LL:OkF 24 oG:=okq func24
def Eg:=cv (a:=gT f25 [[0,2],[2]])
def rC:al:=⟨6,mkC Eg.1,[.cell 2 (.some 3)],.false,.false⟩
theorem Pd:OkF 25 rC:=okq func25
def Ij:=cv (a:=gT f26 [[0,2],[2]])
def uj:al:=⟨6,mkC Ij.1,[.cell 2 (.some 4)],.false,.false⟩
theorem PF:OkF 26 uj:=okq func26
def Ci:=cv (a:=gT f35 [[1,2,3],[1,2,3,17],[6,7],[1,2,3,8],[1,2,3,8,24],[6,7],[3,9],[9,34],[6,7],[6,7]])
def oZ:al:=⟨37,mkC Ci.1,[.tmp 6,.tmp 7],.false,.false⟩
theorem LK:OkF 35 oZ:=okq func35
def ya:=cv (a:=gT f36 [[1],[1,9],[2],[1,11,12,13],[1,11,12,13,14],[1,3,4,11,12,13],[1,11,12,13,21],[2],[1,11,12,13],[2]] [(.close [6003,7002])])
def rA:al:=⟨26,mkC ya.1,[.tmp 2],.false,.false⟩
def AW:=cv (a:=lp ya.1 0)
def B6:aq:=mkC AW.1
theorem Ok:OkF 36 rA:=okq func36
def Bb:=cv (a:=gT f37 [[0,2],[2]])
def mU:al:=⟨6,mkC Bb.1,[.cell 2 (.some 6)],.false,.false⟩
theorem JX:OkF 37 mU:=okq func37
def EG:=cv (a:=gT f38 [[0,1],[4]])
def rD:al:=⟨9,mkC EG.1,[.tmp 4],.false,.false⟩
theorem P6:OkF 38 rD:=okq func38
def GO:=cv (a:=gT f39 [[1,2,3],[1,2,3,8],[6,7],[1,2,3,17],[6,7],[1,2,3,31],[6,7],[6,7]])
def ug:al:=⟨48,mkC GO.1,[.tmp 6,.tmp 7],.false,.false⟩
theorem PT:OkF 39 ug:=okq func39
def F7:=cv (a:=gT f40 [[1,2],[1,2,6],[1,2,6,11],[4,5],[4,5]])
def rv:al:=⟨17,mkC F7.1,[.tmp 4,.tmp 5],.false,.false⟩
theorem O5:OkF 40 rv:=okq func40
def QE:=cv (a:=gT f41 [[2,3,5,6,9,10],[2,3,5,6,9,10],[2,3,5,6,9,10,16],[10,11],[2,3,5,6,9,10,12],[2,3,5,6,9,10,12,24],[10,11],[2,3,5,6,9,10,27],[10,11],[2,3,5,6,9,10,32],[10,11],[2,5,6,9,10,13],[2,5,6,9,10,13,46],[10,11],[10,11]])
def De:al:=⟨56,mkC QE.1,[.cell 10 (.some 17),.tmp 11],.false,.false⟩
theorem a0w:OkF 41 De:=okq func41
def Ei:=cv (a:=gT f66 [[0],[2]])
def re:al:=⟨9,mkC Ei.1,[.tmp 2],.true,.false⟩
theorem MP:OkF 66 re:=okq func66
def a94:=cv (a:=gT f68 [[0,1,2],[6]])
def Tj:al:=⟨15,mkC a94.1,[.tmp 6],.false,.false⟩
theorem b2C:OkF 68 Tj:=okq func68
def F3:=cv (a:=gT f71 [[1,2],[4]])
def rq:al:=⟨9,mkC F3.1,[.tmp 4],.false,.false⟩
theorem Ny:OkF 71 rq:=okq func71
def Qy:=cv (a:=gT f72 [[1],[2]])
def Dc:al:=⟨11,mkC Qy.1,[.tmp 2],.false,.false⟩
theorem Yn:OkF 72 Dc:=okq func72
def fC:aq:=(.seq (qS 1000 [qg 2 (.mv (.c (.slice .none 0 0)))] [0]) (.seq (.seq (qS 2000 [qm 3 0,qg 4 (.isNil .false (.t 3))] [0,4]) (.cond (.t 4) (.seq (qS 3000 [qg 2 (.mv (.c (.slice .none 0 0)))] [2]) .ret) .skip)) (.seq (qS 4000 [qg 5 (.buildSlice 2 z0 0 []),qm 6 0,qg 7 (.append 2 16 z0 (.t 5) (.t 6)),qm 2 7] [2]) .ret)))
def aM:al:=⟨8,fC,[.tmp 2],.true,.false⟩
theorem sW:OkF 73 aM:=okq func73
def tp:=cv (a:=gT f75 [[0,1],[0,1,5],[0,1,5,6],[0,1,5,6,10],[0,1,5,6],[0,1,5,6],[4]] [(.close [6002,6003,6004])])
def nm:al:=⟨19,mkC tp.1,[.tmp 4],.false,.false⟩
def xd:=cv (a:=lp tp.1 0)
def xc:aq:=mkC xd.1
theorem Jj:OkF 75 nm:=okq func75
def KJ:=cv (a:=gT f76 [[1,2,3],[1,2,3,7],[6],[1,2,3,16],[6],[1,2,3,20],[6],[29],[6],[6]])
def wB:al:=⟨42,mkC KJ.1,[.tmp 6],.false,.false⟩
theorem Ui:OkF 76 wB:=okq func76
def Er:=cv (a:=gT f77 [[1],[2]])
def rf:al:=⟨16,mkC Er.1,[.tmp 2],.false,.false⟩
theorem NV:OkF 77 rf:=okq func77
def Hk:=cv (a:=gT f78 [[1],[2]])
def ua:al:=⟨27,mkC Hk.1,[.tmp 2],.false,.false⟩
theorem Pn:OkF 78 ua:=okq func78
def AU:=cv (a:=gT f79 [[1],[2]])
def nh:al:=⟨9,mkC AU.1,[.tmp 2],.false,.false⟩
theorem JC:OkF 79 nh:=okq func79
def sY:=cv (a:=gT f80 [[1,2,3],[1,2,3,8],[1,2,8,14,15,16],[1,2,8,14,15,16,17],[1,2,8,10,14,15,16],[1,2,8,10,11,14,15,16],[1,2,8,10,11,14,15,16,23],[1,2,8,10,11,14,15,16,23,24],[1,2,8,11,14,15,16],[1,2,8,10,11,14,15,16,23,31],[1,2,8,11,14,15,16],[1,2,8,10,11,14,15,16,23,38],[1,2,8,11,14,15,16],[1,2,8,10,11,14,15,16,23,51],[1,2,8,11,14,15,16],[1,2,8,10,11,14,15,16,23,64],[1,2,8,11,14,15,16],[1,2,8,10,11,14,15,16,23,77],[1,2,8,10,11,14,15,16,77],[1,2,8,10,11,14,15,16],[1,2,8,11,14,15,16,105],[6,7],[1,2,8,14,15,16],[1,2,8,14,15,16],[6,7]] [(.close [5002,13010,15010,17010,23002,23003])])
def nl:al:=⟨112,mkC sY.1,[.tmp 6,.tmp 7],.false,.false⟩
def wN:=cv (a:=lp sY.1 0)
def wF:aq:=mkC wN.1
theorem JI:OkF 80 nl:=okq func80
def eo:=cv (a:=gT f81 [[1,2],[1,2,3],[1,2,3,4],[1,2,3,4,29],[1,2,3,4],[1,2,3,5,6,7],[1,2,3,5,6,7,38,39,40],[1,2,3,5,6,7,38,39,40,41],[1,2,3,5,6,7,9,38,39,40],[1,2,3,5,6,7,38,39,40,46],[1,2,3,5,6,7,38,39,40],[1,2,3,5,6,7,38,39,40],[1,2,3,5,6,7,38,39,40],[1,2,3,5,10],[2,3,5,10,66,67,68],[2,3,5,10,66,67,68,69],[2,3,5,10,11,12,66,67,68],[2,3,5,10,66,67,68],[2,3,5,10,66,67,68],[2,3,5,10,66,67,68,69,89],[2,3,5,10,66,67,68,69],[2,3],[2]] [(.close [4001]),(.close [9002,11002,11003,12002,12003]),(.close [17003,18007]),(.close [])])
def jm:al:=⟨113,mkC eo.1,[.cell 2 (.some 6)],.false,.false⟩
def sT:=cv (a:=lp eo.1 0)
def sr:aq:=mkC sT.1
def sR:=cv (a:=lp eo.1 1)
def sq:aq:=mkC sR.1
def pK:=cv (a:=lp eo.1 2)
def pG:aq:=mkC pK.1
def pE:=cv (a:=lp eo.1 3)
def pw:aq:=mkC pE.1
theorem DD:OkF 81 jm:=okq func81
def Ns:=cv (a:=gT f82 [[2,3,5,6,9,10],[2,3,5,6,10,12],[10,13,14],[10,13,26],[10,11],[10,11]])
def A5:al:=⟨29,mkC Ns.1,[.cell 10 (.some 17),.tmp 11],.false,.false⟩
theorem UJ:OkF 82 A5:=okq func82
def xq:=cv (a:=gT f83 [[1,2,3],[1,2,3,7],[1,2,3,7],[2,3,7],[7],[6]])
def ku:al:=⟨25,mkC xq.1,[.tmp 6],.false,.false⟩
theorem FH:OkF 83 ku:=okq func83
def nH:=cv (a:=gT f84 [[1,2],[1,2,5],[1,5,10,11,12],[1,5,10,11,12,13],[1,5,6,7,10,11,12],[1,5,6,10,11,12,19],[1,5,10,11,12],[1,5,10,11,12],[4]] [(.close [5003,7005,7006])])
def jc:al:=⟨29,mkC nH.1,[.tmp 4],.false,.false⟩
def sA:=cv (a:=lp nH.1 0)
def sQ:aq:=mkC sA.1
theorem DJ:OkF 84 jc:=okq func84
def Ad:=cv (a:=gT f86 [[1],[1,23],[2],[1,25,26],[1,25,26,27],[1,4,25,26],[1,25,26,37],[2],[1,25,26],[2]] [(.close [7007])])
def uy:al:=⟨39,mkC Ad.1,[.tmp 2],.false,.false⟩
def Oe:=cv (a:=lp Ad.1 0)
def a9k:aq:=mkC Oe.1
theorem PA:OkF 86 uy:=okq func86
def EP:=cv (a:=gT f88 [[2,4,5,7],[2,4,5,7,9],[8],[2,4,7,13],[8],[7,32],[8],[38],[8],[8]])
def rk:al:=⟨42,mkC EP.1,[.tmp 8],.false,.false⟩
theorem MN:OkF 88 rk:=okq func88
def nR:=cv (a:=gT f91 [[0,2],[0,2,3],[0,2,3,4],[0,2,3,4,5],[0,2,3,4,5,14],[0,2,3,4,5,6],[0,2,3,4,5,6,26],[0,2,3,4,5,6],[0,2,3,4,5,6,38],[0,2,3,4,5,6],[0,2,3,4,5,6,42],[0,2,3,4,5,6,42,43],[0,2,3,4,5,6],[0,2,3,4,5,6],[0,2,3,4,5,6,60],[0,2,3,4,5,6],[0,2,3,4,5,6,64],[0,2,3,4,5,6],[0,2,3,4,5,6,72],[0,2,3,4,5,6],[0,2,3,4,5],[0,2,3,4,5],[2]] [(.close [7001,7004,8004,9001,10005,12002,14002,15002,16005,19002,21001,21002,21004,22003,22004])])
def j6:al:=⟨88,mkC nR.1,[.cell 2 (.some 1)],.false,.false⟩
def rU:=cv (a:=lp nR.1 0)
def rZ:aq:=mkC rU.1
theorem DY:OkF 91 j6:=okq func91
def ka:=cv (a:=gT f92 [[0,3],[0,3,6],[0,3,6,7],[0,3,6,7,15],[0,3,6,7,8],[0,3,6,7,9],[0,3,6,7,9,26],[0,3,6,7,9,10],[0,3,6,7,9,10,32],[0,3,6,7,9,10],[0,3,6,7,9],[0,3,6,7,9],[0,3,6,7],[4,5]] [(.close [6000,7002,10001,11001,12001,13007,13008]),(.close [10001,11001,12001,13007,13008])])
def ki:al:=⟨51,mkC ka.1,[.tmp 4,.tmp 5],.false,.false⟩
def Dz:=cv (a:=lp ka.1 0)
def Ym:aq:=mkC Dz.1
def mb:=cv (a:=lp ka.1 1)
def iz:aq:=mkC mb.1
theorem Fl:OkF 92 ki:=okq func92
def vq:=cv (a:=gT f93 [[0,2],[2]])
def jn:al:=⟨12,mkC vq.1,[.cell 2 (.some 3)],.false,.false⟩
theorem Dy:OkF 93 jn:=okq func93
def p7:=cv (a:=gT f94 [[0,2],[0,2,3],[0,2,3,11],[0,2,3],[0,2,3,4],[0,2,3,4,21],[0,2,3,4,25],[0,2,3,4],[0,2,3,4],[0,2,3,4],[2]] [(.close [8001,9002,9003,9004,10001])])
def k9:al:=⟨38,mkC p7.1,[.cell 2 (.some 4)],.false,.false⟩
def mr:=cv (a:=lp p7.1 0)
def iv:aq:=mkC mr.1
theorem Fb:OkF 94 k9:=okq func94
def P1:=cv (a:=gT f96 [[0],[2]])
def zi:al:=⟨11,mkC P1.1,[.tmp 2],.false,.false⟩
theorem WS:OkF 96 zi:=okq func96
def MV:=cv (a:=gT f97 [[0,2],[2]])
def zB:al:=⟨8,mkC MV.1,[.cell 2 (.some 2)],.false,.false⟩
theorem WT:OkF 97 zB:=okq func97
def KQ:=cv (a:=gT f98 [[0,1],[0,5],[5],[4]])
def xf:al:=⟨16,mkC KQ.1,[.tmp 4],.false,.false⟩
theorem RP:OkF 98 xf:=okq func98
def KY:=cv (a:=gT f99 [[0],[2]])
def xr:al:=⟨5,mkC KY.1,[.tmp 2],.false,.false⟩
theorem Uw:OkF 99 xr:=okq func99
def Us:=cv (a:=gT f101 [[0,1,4],[0,1,4,5],[1,4,5,9,10,11],[1,4,5,9,10,11,12],[1,4,5,6,7,9,10,11],[1,4,5,9,10,11],[1,4,5,9,10,11],[4]] [(.close [5003,6006,6007])])
def M5:al:=⟨26,mkC Us.1,[.cell 4 (.some 2)],.false,.false⟩
def Rf:=cv (a:=lp Us.1 0)
def Rp:aq:=mkC Rf.1
theorem a6V:OkF 101 M5:=okq func101
def xj:=cv (a:=gT f102 [[0],[0,3],[3,12,13,14],[3,12,13,14,15],[3,5,12,13,14],[3,5,6,7,12,13,14],[5,6,7,12,13,14,20,21,22],[5,6,7,12,13,14,20,21,22,23],[5,6,7,9,12,13,14,20,21,22],[5,6,7,12,13,14,20,21,22],[5,6,7,12,13,14,20,21,22],[3,12,13,14],[3,12,13,14],[2]] [(.close [5002,6000,6001,9002,10002,10004,10005,10006,10007,10011,10012,10013,12002,2001]),(.close [9002,10002,10004,10005,10006,10007,10011,10012,10013])])
def wX:al:=⟨46,mkC xj.1,[.tmp 2],.false,.false⟩
def Ex:=cv (a:=lp xj.1 0)
def ED:aq:=mkC Ex.1
def Ed:=cv (a:=lp xj.1 1)
def F5:aq:=mkC Ed.1
theorem Ti:OkF 102 wX:=okq func102
def N1:=cv (a:=gT f110 [[1,2],[1,2],[2]])
def zL:al:=⟨9,mkC N1.1,[.cell 2 (.some 4)],.false,.false⟩
theorem VZ:OkF 110 zL:=okq func110
def wW:=cv (a:=gT f112 [[1,2],[1,2],[2]])
def kj:al:=⟨8,mkC wW.1,[.cell 2 (.some 4)],.false,.false⟩
theorem Fm:OkF 112 kj:=okq func112
def QK:=cv (a:=gT f115 [[0,1,2],[6]])
def D9:al:=⟨15,mkC QK.1,[.tmp 6],.false,.false⟩
theorem ZA:OkF 115 D9:=okq func115
def OV:=cv (a:=gT f119 [[0],[2]])
def A8:al:=⟨6,mkC OV.1,[.tmp 2],.false,.false⟩
theorem WX:OkF 119 A8:=okq func119
def NB:=cv (a:=gT f124 [[1,2,3],[1,2,3,7],[6],[1,2,3,16],[6],[1,2,3,20],[6],[29],[6],[6]])
def Ae:al:=⟨42,mkC NB.1,[.tmp 6],.false,.false⟩
theorem W5:OkF 124 Ae:=okq func124
def FK:=cv (a:=gT f125 [[1,2,3],[1,2,3,7],[1,2,3,7,8],[1,2,3,7,8,9],[1,2,3,7,8,9,10],[1,2,3,7,8,9,10,18],[1,2,3,7,8,9,10,11],[1,2,3,7,8,9,10,11],[1,2,3,7,8,9,10,11,27],[1,2,3,7,8,9,10,11,27,33],[1,2,3,7,8,9,10,12],[1,2,3,7,8,9,10,12],[1,2,3,7,8,9,10,11,27,41],[1,2,3,7,8,9,10,12],[1,2,3,7,8,9,10,12],[1,2,3,7,8,9,10,11,27,49],[1,2,3,7,8,9,10,12],[1,2,3,7,8,9,10,11,27,53],[1,2,3,7,8,9,10,12],[1,2,3,7,8,9,10,11,27,66],[1,2,3,7,8,9,10,12],[1,2,3,7,8,9,10,11,79],[1,2,3,7,8,9,10,12],[1,2,3,7,8,9,10,12],[1,2,3,7,8,9,10],[1,2,3,7,8,9,10],[6]] [(.close [8005,21010,23010,25010,26002,26003])])
def As:al:=⟨97,mkC FK.1,[.tmp 6],.false,.false⟩
def HS:=cv (a:=lp FK.1 0)
def Hc:aq:=mkC HS.1
theorem Wd:OkF 125 As:=okq func125
def Ch:=cv (a:=gT f126 [[1,2],[1,2,5],[1,2,5,11],[1,2,5,6],[1,2,5,47],[4],[1,2,5],[4]] [(.close [5005])])
def xw:al:=⟨48,mkC Ch.1,[.tmp 4],.false,.false⟩
def EW:=cv (a:=lp Ch.1 0)
def EY:aq:=mkC EW.1
theorem Ry:OkF 126 xw:=okq func126
def P2:=cv (a:=gT f127 [[1,2],[1,2,5,6,7],[1,2,5,6,7,18],[1,2,5,6,7,18,19],[2,5,6,7],[1,2,5,6,7,18,24],[1,2,5,6,7,18,24],[1,2,5,6,7,18,24],[1,2,5,6,7,18,24],[2,5,6,7],[1,2,5,6,7,39],[2,5,6,7],[4]])
def Ao:al:=⟨58,mkC P2.1,[.tmp 4],.false,.false⟩
theorem WE:OkF 127 Ao:=okq func127
def md:=cv (a:=gT f128 [[1,2],[1,2,5],[1,5,9,10,11],[1,5,9,10,11,12],[1,5,7,9,10,11],[1,5,9,10,11,18],[1,5,9,10,11],[1,5,9,10,11],[4]] [(.close [5002])])
def iu:al:=⟨23,mkC md.1,[.tmp 4],.false,.false⟩
def px:=cv (a:=lp md.1 0)
def pI:aq:=mkC px.1
theorem CV:OkF 128 iu:=okq func128
def wE:=cv (a:=gT f129 [[0,2],[0,2,3],[0,2,3],[0,2,3],[0,2,3],[2,3],[2]])
def kh:al:=⟨41,mkC wE.1,[.cell 2 (.some 6)],.false,.false⟩
theorem FC:OkF 129 kh:=okq func129
def oQ:=cv (a:=gT f130 [[0,1],[0,1,5],[0,1,5,6],[0,1,5,6,10],[0,1,5,6],[0,1,5,6],[4]] [(.close [6002,6003,6004])])
def ko:al:=⟨19,mkC oQ.1,[.tmp 4],.false,.false⟩
def tH:=cv (a:=lp oQ.1 0)
def tS:aq:=mkC tH.1
theorem Fi:OkF 130 ko:=okq func130
def KZ:=cv (a:=gT f131 [[1,2],[4]])
def wA:al:=⟨9,mkC KZ.1,[.tmp 4],.false,.false⟩
theorem Uq:OkF 131 wA:=okq func131
def KK:=cv (a:=gT f132 [[0],[2]])
def wL:al:=⟨5,mkC KK.1,[.tmp 2],.false,.false⟩
theorem Uo:OkF 132 wL:=okq func132
def B3:=cv (a:=gT f133 [[1],[2]])
def n7:al:=⟨7,mkC B3.1,[.tmp 2],.false,.false⟩
theorem JG:OkF 133 n7:=okq func133
def Bh:=cv (a:=gT f134 [[1,2],[1,2,5],[4],[1,2,9],[4],[18],[4],[4]])
def na:al:=⟨25,mkC Bh.1,[.tmp 4],.false,.false⟩
theorem Jo:OkF 134 na:=okq func134
def oY:=cv (a:=gT f135 [[1,2],[5,6,7],[5,6,7,28,29],[5,6,7,28,29,30],[5,6,7,8,28,29],[5,6,7,8,28,29,45],[4],[5,6,7,28,29],[4]] [(.close [6008])])
def km:al:=⟨48,mkC oY.1,[.tmp 4],.false,.false⟩
def tJ:=cv (a:=lp oY.1 0)
def tC:aq:=mkC tJ.1
theorem FA:OkF 135 km:=okq func135
def xG:=cv (a:=gT f139 [[1],[1,8],[2],[1,3],[1,3,13],[1,3,23],[2],[1,3],[2]] [(.close [7006])])
def rF:al:=⟨27,mkC xG.1,[.tmp 2],.false,.false⟩
def AT:=cv (a:=lp xG.1 0)
def AL:aq:=mkC AT.1
theorem OX:OkF 139 rF:=okq func139
def a1q:=cv (a:=gT f164 [[0,1],[4]])
def Ml:al:=⟨9,mkC a1q.1,[.tmp 4],.false,.false⟩
theorem a9w:OkF 164 Ml:=okq func164
def pZ:=cv (a:=gT f165 [[0],[0,6],[0,6,7],[2],[0,11],[2],[0,3],[0,3,4],[0,3,4,17],[0,3,4],[0,3,4],[2]] [(.close [11003])])
def lV:al:=⟨27,mkC pZ.1,[.tmp 2],.false,.false⟩
def vF:=cv (a:=lp pZ.1 0)
def vz:aq:=mkC vF.1
theorem IM:OkF 165 lV:=okq func165
def ge:=cv (a:=gT f166 [[0,1],[4]])
def cp:al:=⟨9,mkC ge.1,[.tmp 4],.false,.false⟩
theorem mP:OkF 166 cp:=okq func166
def AY:=cv (a:=gT f167 [[1,2],[3]])
def nk:al:=⟨8,mkC AY.1,[.tmp 3],.false,.false⟩
theorem JM:OkF 167 nk:=okq func167
def On:=cv (a:=gT f168 [[0],[2]])
def Ah:al:=⟨7,mkC On.1,[.tmp 2],.false,.false⟩
theorem Vg:OkF 168 Ah:=okq func168
def Bx:=cv (a:=gT f169 [[0,2],[0,2,4],[2],[2]])
def p9:al:=⟨13,mkC Bx.1,[.cell 2 (.some 2)],.false,.false⟩
theorem LC:OkF 169 p9:=okq func169
def a1I:=cv (a:=gT f170 [[0,1],[4]])
def M9:al:=⟨10,mkC a1I.1,[.tmp 4],.false,.false⟩
theorem a9P:OkF 170 M9:=okq func170
def a1n:=cv (a:=gT f171 [[0,1],[4]])
def Ma:al:=⟨9,mkC a1n.1,[.tmp 4],.false,.false⟩
theorem a9Y:OkF 171 Ma:=okq func171
def Ck:=cv (a:=gT f172 [[0,2,5,7],[0,2,5,7,8],[0,2,5,7,8,11],[0,2,5,7,8,11,12],[],[0,2,5,7,8,11,21],[],[0,2,5,7,8,11,35],[],[0,2,5,7,8,11,49],[],[0,2,5,7,8,11,63],[0,2,5,8],[],[0,2,5,7,8,79],[0,2,5,8],[]])
def oU:al:=⟨100,mkC Ck.1,[],.false,.false⟩
theorem LF:OkF 172 oU:=okq func172
def pY:=cv (a:=gT f174 [[0,3,4,6,7,10],[0,3,4,6,7,10,12],[0,4,6,7,10,12],[0,4,6,7,10,12,13],[0,4,6,7,10,12,13],[0,4,6,7,10,12,13,14],[0,4,6,7,10,12,13,14,59,60],[0,4,6,7,10,12,13,14,59,60,61],[0,4,6,7,10,12,13,14,16,59,60],[0,4,6,7,10,12,13,14,59,60],[0,4,6,7,10,12,13,14,59,60],[0,4,6,7,10,12,13,17,18,19],[0,4,6,7,10,12,13,18],[0,4,6,7,10,12,13,18],[0,4,6,7,10,12,13,18,20],[0,6,7,10,12,13,21,22],[0,7,10,12,13,21,24],[0,7,10,12,13,24],[0,7,10,12,13,24],[10,13,25,26],[10,13,26],[10,11]] [(.close [10005,10006,10007,10008])])
def lD:al:=⟨149,mkC pY.1,[.cell 10 (.some 17),.tmp 11],.false,.false⟩
def FL:=cv (a:=lp pY.1 0)
def a01:aq:=mkC FL.1
theorem GF:OkF 174 lD:=okq func174
def Av:=cv (a:=gT f175 [[0],[0,3],[3,7,8,9],[3,7,8,9,10],[3,5,7,8,9],[3,7,8,9],[3,7,8,9],[2]] [(.close [5002,6003,6006])])
def uw:al:=⟨22,mkC Av.1,[.tmp 2],.false,.false⟩
def CX:=cv (a:=lp Av.1 0)
def CO:aq:=mkC CX.1
theorem Qj:OkF 175 uw:=okq func175
def tG:=cv (a:=gT f177 [[1,2],[2]])
def iw:al:=⟨10,mkC tG.1,[.cell 2 (.some 3)],.false,.false⟩
theorem C7:OkF 177 iw:=okq func177
def A6:=cv (a:=gT f178 [[0,1,2],[0,1,2,9,10,11],[0,1,2,9,10,11,12],[0,1,2,7,8,9,10,11],[0,1,2,9,10,11,49],[6],[0,1,2,9,10,11],[6]] [(.close [4003,5004,5011,5017,5030])])
def ud:al:=⟨54,mkC A6.1,[.tmp 6],.false,.false⟩
def C0:=cv (a:=lp A6.1 0)
def BA:aq:=mkC C0.1
theorem Pm:OkF 178 ud:=okq func178
def B5:=cv (a:=gT f185 [[0,1],[0,1,9],[4],[0,1,11],[4],[0,1,5],[0,1,5,6],[1,5,6,7],[4]])
def n8:al:=⟨31,mkC B5.1,[.tmp 4],.false,.false⟩
theorem K8:OkF 185 n8:=okq func185
def ws:=cv (a:=gT f186 [[0,1],[4]])
def jY:al:=⟨11,mkC ws.1,[.tmp 4],.false,.false⟩
theorem G6:OkF 186 jY:=okq func186
def zF:=cv (a:=gT f187 [[1,2],[1,2,5],[1,2,5,6],[1,2,5,6,11],[1,2,5,6],[1,2,5,6],[4]] [(.close [6009])])
def uH:al:=⟨26,mkC zF.1,[.tmp 4],.false,.false⟩
def Co:=cv (a:=lp zF.1 0)
def BY:aq:=mkC Co.1
theorem Py:OkF 187 uH:=okq func187
def Kv:=cv (a:=gT f188 [[0],[0,3],[2],[6],[2],[2]])
def xx:al:=⟨9,mkC Kv.1,[.tmp 2],.false,.false⟩
theorem SP:OkF 188 xx:=okq func188
def Oq:=cv (a:=gT f189 [[0,1,4],[4]])
def A2:al:=⟨10,mkC Oq.1,[.cell 4 (.some 4)],.false,.false⟩
theorem X6:OkF 189 A2:=okq func189
def AK:=cv (a:=gT f190 [[0,1],[0,1,7],[4],[4]])
def nj:al:=⟨15,mkC AK.1,[.tmp 4],.false,.false⟩
theorem Jg:OkF 190 nj:=okq func190
def EA:=cv (a:=gT f191 [[1,2,4],[2,4],[2,4],[4]])
def rm:al:=⟨19,mkC EA.1,[.cell 4 (.some 4)],.false,.false⟩
theorem P5:OkF 191 rm:=okq func191
def KH:=cv (a:=gT f192 [[1,2,3],[1,2,3,9],[1,2,3,4],[1,2,3,4],[2,3],[1,2,3,5],[1,2,3,5],[2,3]])
def wJ:al:=⟨47,mkC KH.1,[.cell 2 (.some 4),.cell 3 (.some 2)],.false,.false⟩
theorem Se:OkF 192 wJ:=okq func192
def vX:=cv (a:=gT f194 [[0],[0,3],[3,10,11,12],[3,10,11,12,13],[3,5,10,11,12],[3,10,11,12],[3,10,11,12],[3,6],[3,6,27],[3,6,7],[3,6,7,8],[3,6,7,8,32],[3,6,7,8],[3,6,7,8],[3,6],[2]] [(.close [6002,6003,6004,6005]),(.close [10000,14010,14011,14012,14013,15002,15003]),(.close [14010,14011,14012,14013])] [(7,.close [2000]),(14,.close [10000])])
def zG:al:=⟨55,mkC vX.1,[.tmp 2],.false,.false⟩
def HY:=cv (a:=lp vX.1 0)
def GP:aq:=mkC HY.1
def GQ:=cv (a:=lp vX.1 1)
def Hw:aq:=mkC GQ.1
def EE:=cv (a:=lp vX.1 2)
def EM:aq:=mkC EE.1
theorem WF:OkF 194 zG:=okq func194
def zz:=cv (a:=gT f195 [[0],[0,3,4],[0,3,4,10,11],[0,3,4,10,11,12],[0,3,4,5,10,11],[0,3,4,10,11],[0,3,4,10,11],[2]] [(.close [6011,6012,6014,6015])])
def uA:al:=⟨32,mkC zz.1,[.tmp 2],.false,.false⟩
def D2:=cv (a:=lp zz.1 0)
def CH:aq:=mkC D2.1
theorem Qb:OkF 195 uA:=okq func195
def a1k:=cv (a:=gT f196 [[0],[2]])
def Mi:al:=⟨9,mkC a1k.1,[.tmp 2],.false,.false⟩
theorem b1m:OkF 196 Mi:=okq func196
def zZ:=cv (a:=gT f197 [[0,1],[1,5],[1,5,6],[1,5,6,14],[1,5,6,18,19],[1,5,6,18,19,20],[1,5,6,7,18,19],[1,5,6,7,18,19,25],[1,5,6,18,19],[1,5,6,18,19],[1,5,6],[4]] [(.close [10013]),(.close [10013])])
def zl:al:=⟨43,mkC zZ.1,[.tmp 4],.false,.false⟩
def Gu:=cv (a:=lp zZ.1 0)
def IQ:aq:=mkC Gu.1
def Hy:=cv (a:=lp zZ.1 1)
def It:aq:=mkC Hy.1
theorem Ww:OkF 197 zl:=okq func197
def E3:=cv (a:=gT f198 [[2,3,4],[4]])
def qY:al:=⟨16,mkC E3.1,[.cell 4 (.some 2)],.false,.false⟩
theorem Nu:OkF 198 qY:=okq func198
def HR:=cv (a:=gT f199 [[2,3,4],[4]])
def uu:al:=⟨16,mkC HR.1,[.cell 4 (.some 2)],.false,.false⟩
theorem PD:OkF 199 uu:=okq func199
def F8:=cv (a:=gT f200 [[2,3,4],[4]])
def rB:al:=⟨29,mkC F8.1,[.cell 4 (.some 2)],.false,.false⟩
theorem OO:OkF 200 rB:=okq func200
def a2C:=cv (a:=gT f201 [[0],[0]])
def M1:al:=⟨2,mkC a2C.1,[.cell 0 (.some 2)],.false,.false⟩
theorem a7w:OkF 201 M1:=okq func201
def xM:=cv (a:=gT f213 [[0,1],[0,1,5],[0,5,6],[0,5,6,11],[0,5,6],[0,5,6],[4]] [(.close [6007,6008])])
def rG:al:=⟨24,mkC xM.1,[.tmp 4],.false,.false⟩
def B1:=cv (a:=lp xM.1 0)
def Ax:aq:=mkC B1.1
theorem O9:OkF 213 rG:=okq func213
def xV:aq:=(.seq (.seq (qS 3000 [qm 12 3,qn 13 12,qB 14 .rem 13 136,qB 15 .neq 14 0] [3,15]) (.cond (.t 15) .skip (.exit 0))) (.block 1 (qS 4000 [qm 16 3,qg 17 (.buildSlice 1 [(.int .u8 0)] 1 [(0,(.c (.int .u8 0)))]),qg 18 (.append 1 1 [(.int .u8 0)] (.t 16) (.t 17)),qm 3 18] [3])))
def we:aq:=(.seq (.seq (qS 12000 [qm 41 7,qB 42 .lss 41 25] [3,4,5,6,7,42]) (.cond (.t 42) .skip (.exit 4))) (.seq (.block 5 (.drawn 14000 [qm 45 7,qX 46 25 1 4 45,ql 47 46,qm 48 7,qX 49 25 1 6 48,ql 50 49,qb 51 .xor 47 50,qX 52 25 1 4 45,qu 1 52 51] [[],[0],[1,0],[],[3],[4,3],[2,1,0,5,4,3],[0,1,2,3,4,5,6],[7,0,1,2,3,4,5,6]] [3,4,5,6,7])) (qS 13000 [qm 43 7,qB 44 .add 43 1,qm 7 44] [3,4,5,6,7])))
def xZ:aq:=(.seq (.seq (qS 8000 [qm 28 5,qm 29 3,qn 30 29,qb 31 .lss 28 30] [3,4,5,31]) (.cond (.t 31) .skip (.exit 2))) (.seq (.block 3 (.seq (qS 10000 [qm 34 3,qm 35 5,qm 36 5,qB 37 .add 36 136,qg 38 (.slice 1 (.t 34) (.some (.t 35)) (.some (.t 37)) .none),qg 39 (.toStr (.t 38)),qc 40 321 [39],qg 6 (.alloc (zar .u64 25)),qu 25 6 40] [3,4,5,6]) (.seq (.seq (qS 11000 [qi 7 0] [3,4,5,6,7]) (.block 4 (.loop (mH (.close []) we)))) (qS 15000 [qL 53 25 4,qc 54 322 [53],qu 25 4 54] [3,4,5])))) (qS 9000 [qm 32 5,qB 33 .add 32 136,qm 5 33] [3,4,5])))
def KF:aq:=(.seq (qS 1000 [qg 2 (.mv (.c (.string ⟨⟨[]⟩⟩)))] [0]) (.seq (qS 2000 [qm 8 0,qg 9 (.toBytes (.t 8)),qg 10 (.buildSlice 1 [(.int .u8 0)] 1 [(0,(.c (.int .u8 1)))]),qg 11 (.append 1 1 [(.int .u8 0)] (.t 9) (.t 10)),qm 3 11] [3]) (.seq (.block 0 (.loop (mH (.close [4001,4002]) xV))) (.seq (qS 5000 [qm 19 3,qm 20 3,qn 21 20,qB 22 .sub 21 1,qx 23 1 19 22,ql 24 23,qg 25 (.bin .or (.t 24) (.c (.int .u8 128))),qx 26 1 19 22,qu 1 26 25] [3]) (.seq (qS 6000 [qg 27 (.build (zar .u64 25) []),qg 4 (.alloc (zar .u64 25)),qu 25 4 27] [3,4]) (.seq (.seq (qS 7000 [qi 5 0] [3,4,5]) (.block 2 (.loop (mH (.close [10006,10007,15001,2001]) xZ)))) (.seq (qS 16000 [qL 55 25 4,qg 56 (.call 323 [(.t 55),(qI 32)]),qm 2 56] [2]) .ret)))))))
def wQ:al:=⟨57,KF,[.tmp 2],.false,.false⟩
theorem U8:OkF 218 wQ:=okq func218
def xe:=cv (a:=gT f221 [[]])
def ke:al:=⟨23,mkC xe.1,[],.false,.false⟩
theorem Fo:OkF 221 ke:=okq func221
def pB:=cv (a:=gT f223 [[]])
def gy:al:=⟨8,mkC pB.1,[],.false,.false⟩
theorem Ab:OkF 223 gy:=okq func223
def AS:=cv (a:=gT f224 [[1,2,3],[1,7],[6]] [] [(2,.close [2009])])
def nr:al:=⟨25,mkC AS.1,[.tmp 6],.false,.false⟩
theorem IW:OkF 224 nr:=okq func224
def P3:=cv (a:=gT f225 [[0,1],[4]])
def zd:al:=⟨19,mkC P3.1,[.tmp 4],.false,.false⟩
theorem a3E:OkF 225 zd:=okq func225
def FB:=cv (a:=gT f226 [[0,1],[0,1,5],[1,5,9,10,11],[1,5,9,10,11,12],[1,5,7,9,10,11],[1,5,9,10,11],[1,5,9,10,11],[4]] [(.close [5002,6005,6006])])
def zJ:al:=⟨24,mkC FB.1,[.tmp 4],.false,.false⟩
def GS:=cv (a:=lp FB.1 0)
def Gi:aq:=mkC GS.1
theorem Yd:OkF 226 zJ:=okq func226
def pX:=cv (a:=gT f227 [[0,1],[0,1,5],[0,5,7,8],[0,5,7,8,9],[0,5,7,8],[0,5,7,8],[4]] [(.close [5002,5003,5004])])
def lG:al:=⟨17,mkC pX.1,[.tmp 4],.false,.false⟩
def vD:=cv (a:=lp pX.1 0)
def vK:aq:=mkC vD.1
theorem Gh:OkF 227 lG:=okq func227
def Kr:=cv (a:=gT f229 [[0],[2]])
def wY:al:=⟨5,mkC Kr.1,[.tmp 2],.false,.false⟩
theorem Sa:OkF 229 wY:=okq func229
def xN:=cv (a:=gT f242 [[0],[0,3],[0,3,7],[0,3,15],[2],[0,3],[2]] [(.close [5004])])
def rp:al:=⟨16,mkC xN.1,[.tmp 2],.false,.false⟩
def B9:=cv (a:=lp xN.1 0)
def AJ:aq:=mkC B9.1
theorem N9:OkF 242 rp:=okq func242
def OJ:=cv (a:=gT f243 [[0,1],[4]])
def Aa:al:=⟨9,mkC OJ.1,[.tmp 4],.false,.false⟩
theorem Wk:OkF 243 Aa:=okq func243
def ME:=cv (a:=gT f244 [[0,1],[4]])
def A3:al:=⟨10,mkC ME.1,[.tmp 4],.false,.false⟩
theorem XF:OkF 244 A3:=okq func244
def OL:=cv (a:=gT f245 [[0,1],[4]])
def zR:al:=⟨9,mkC OL.1,[.tmp 4],.false,.false⟩
theorem V9:OkF 245 zR:=okq func245
def jh:=cv (a:=gT f246 [[0,1,2],[0,1,2,7],[0,1,2,7,8],[0,1,2,7,8,15],[0,1,2,7,8,9],[0,1,2,7,8,9,22],[0,1,2,7,8,9,26],[0,1,2,7,8,9],[0,1,2,7,8,9],[0,1,2,7,8],[6]] [(.close [9001,10004,10007,10008]),(.close [9001,10004,10007,10008])])
def js:al:=⟨37,mkC jh.1,[.tmp 6],.false,.false⟩
def sJ:=cv (a:=lp jh.1 0)
def sO:aq:=mkC sJ.1
def so:=cv (a:=lp jh.1 1)
def rQ:aq:=mkC so.1
theorem DV:OkF 246 js:=okq func246
def iH:=cv (a:=gT f247 [[0,1],[4]])
def cP:al:=⟨9,mkC iH.1,[.tmp 4],.false,.false⟩
theorem pv:OkF 247 cP:=okq func247
def Ep:=cv (a:=gT f248 [[0,1],[3]])
def rb:al:=⟨8,mkC Ep.1,[.tmp 3],.false,.false⟩
theorem Nw:OkF 248 rb:=okq func248
def D0:=cv (a:=gT f249 [[0,1,2],[0,2,7],[2,7,13,14,15],[2,7,13,14,15,16],[2,7,9,13,14,15],[2,7,13,14,15],[2,7,13,14,15],[6]] [(.close [5002,6015,6016])])
def xa:al:=⟨39,mkC D0.1,[.tmp 6],.false,.false⟩
def Ee:=cv (a:=lp D0.1 0)
def Em:aq:=mkC Ee.1
theorem Sg:OkF 249 xa:=okq func249
def Kk:=cv (a:=gT f260 [[1,2],[1,2,9],[4],[1,2,5],[2,52],[4],[2,55],[4],[4]])
def xg:al:=⟨62,mkC Kk.1,[.tmp 4],.false,.false⟩
theorem RY:OkF 260 xg:=okq func260
def dX:=cv (a:=gT f283 [[0,1],[0,1,7,8],[0,1,7,8,9],[0,1,5,7,8],[0,1,5,7,8,16],[4],[0,1,7,8],[4]] [(.close [5005])])
def cH:al:=⟨19,mkC dX.1,[.tmp 4],.false,.false⟩
def gH:=cv (a:=lp dX.1 0)
def gI:aq:=mkC gH.1
theorem oV:OkF 283 cH:=okq func283
def Af:aq:=(.seq (qS 4000 [qb 13 .lss 12 11] [3,10,11,12,13]) (.seq (.cond (.t 13) .skip (.exit 0)) (.seq (.block 1 (.seq (qS 5000 [qx 14 1 10 12,ql 15 14,qm 5 15] [3,5,10,11,12]) (qS 6000 [qm 16 3,qm 17 5,qg 18 (.append 1 1 [(.int .u8 0)] (.t 16) (.t 17)),qm 3 18] [3,10,11,12]))) (qS 7000 [qB 19 .add 12 1,qm 12 19] [3,10,11,12]))))
def zO:aq:=(.seq (.seq (qS 9000 [qm 23 3,qn 24 23,qB 25 .rem 24 136,qB 26 .neq 25 0] [3,26]) (.cond (.t 26) .skip (.exit 2))) (.block 3 (qS 10000 [qm 27 3,qg 28 (.buildSlice 1 [(.int .u8 0)] 1 [(0,(.c (.int .u8 0)))]),qg 29 (.append 1 1 [(.int .u8 0)] (.t 27) (.t 28)),qm 3 29] [3])))
def yc:aq:=(.seq (qS 16000 [qB 48 .lss 47 25] [3,6,46,47,48]) (.seq (.cond (.t 48) .skip (.exit 6)) (.seq (.block 7 (.seq (qS 17000 [qm 49 47,qg 50 (.ixAgg 25 1 .none (.t 46) (.t 47)),qm 7 49,qm 8 50] [3,6,7,8,46,47]) (qS 18000 [qm 51 7,qX 52 25 1 6 51,ql 53 52,qm 54 8,qb 55 .xor 53 54,qX 56 25 1 6 51,qu 1 56 55] [3,6,46,47]))) (qS 19000 [qB 57 .add 47 1,qm 47 57] [3,6,46,47]))))
def xP:aq:=(.seq (.seq (qS 13000 [qm 39 3,qn 40 39,qB 41 .gtr 40 0] [3,6,41]) (.cond (.t 41) .skip (.exit 4))) (.seq (.block 5 (.seq (.seq (qS 15000 [qm 44 3,qg 45 (.slice 1 (.t 44) .none (.some (qI 136)) .none),qc 46 344 [45],qi 47 0] [3,6,46,47]) (.block 6 (.loop (mH (.close []) yc)))) (qS 20000 [qc 58 345 [6]] [3,6]))) (qS 14000 [qm 42 3,qg 43 (.slice 1 (.t 42) (.some (qI 136)) .none .none),qm 3 43] [3,6])))
def NS:aq:=(.seq (qS 1000 [qg 2 (.mv (.c (.string ⟨⟨[]⟩⟩)))] [0]) (.seq (qS 2000 [qg 9 (.buildSlice 1 [(.int .u8 0)] 0 []),qm 3 9] [0,3]) (.seq (.seq (qS 3000 [qm 10 0,qn 11 10,qi 12 0] [3,10,11,12]) (.block 0 (.loop (mH (.close [6002]) Af)))) (.seq (qS 8000 [qm 20 3,qg 21 (.buildSlice 1 [(.int .u8 0)] 1 [(0,(.c (.int .u8 1)))]),qg 22 (.append 1 1 [(.int .u8 0)] (.t 20) (.t 21)),qm 3 22] [3]) (.seq (.block 2 (.loop (mH (.close [10001,10002]) zO))) (.seq (qS 11000 [qm 30 3,qm 31 3,qn 32 31,qB 33 .sub 32 1,qx 34 1 30 33,ql 35 34,qg 36 (.bin .or (.t 35) (.c (.int .u8 128))),qx 37 1 30 33,qu 1 37 36] [3]) (.seq (qS 12000 [qg 38 (.build (zar .u64 25) []),qg 6 (.alloc (zar .u64 25)),qu 25 6 38] [3,6]) (.seq (.block 4 (.loop (mH (.close [15002,20000,2000]) xP))) (.seq (qS 21000 [qc 59 346 [6],qg 60 (.slice 1 (.t 59) .none (.some (qI 32)) .none),qg 61 (.toStr (.t 60)),qm 2 61] [2]) .ret)))))))))
def zI:al:=⟨62,NS,[.tmp 2],.false,.false⟩
theorem XZ:OkF 284 zI:=okq func284
def zf:=cv (a:=gT f285 [[0,1,2],[5]])
def lO:al:=⟨13,mkC zf.1,[.tmp 5],.true,.false⟩
theorem IS:OkF 285 lO:=okq func285
def y6:=cv (a:=gT f286 [[0,2,3,11,12,13],[0,2,3,11,12,13,14],[0,2,3,9,11,12,13],[0,2,3,9,10,11,12,13],[0,2,3,11,12,13],[0,2,3,11,12,13],[0],[]] [(.close [3002,4007,5013])])
def rz:al:=⟨70,mkC y6.1,[],.false,.false⟩
def Bk:=cv (a:=lp y6.1 0)
def Bl:aq:=mkC Bk.1
theorem Nv:OkF 286 rz:=okq func286
def jB:=cv (a:=gT f288 [[2,3],[4]])
def dp:al:=⟨17,mkC jB.1,[.tmp 4],.false,.false⟩
theorem qV:OkF 288 dp:=okq func288
end Go.AI.Fn
