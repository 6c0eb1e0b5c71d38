/- Part. -/
import Derived.Test.YtdnkignjanfikaaGreatTb0
set_option linter.unusedVariables false
set_option maxRecDepth 100000
set_option maxHeartbeats 2000000
namespace Go.AI.Fn
open Proofs.Tryz
def pB:=cv (a:=gT f7 [[2,5,6,8,9],[2,5,6,8,9,22],[10],[2,5,6,8,9,11],[2,5,6,8,9,11],[2,5,6,8,9,11,27],[10],[2,5,6,8,9,11],[2,5,6,8,9,11,32],[10],[2,5,6,8,9,11],[2,5,6,8,9,37],[10],[2,5,6,8,9,12,13],[2,5,6,8,9,12,13,14],[2,5,6,8,9,12,13,14,15],[2,5,6,8,9,12,13,14,15,16],[2,5,6,8,9,12,13,14,15,16,17],[2,5,8,9,12,13,14,15,16,17,18,19],[2,5,8,9,14,15,16,17,77],[10],[2,8,9,15,16,17,82],[10],[8,9,16,17,87],[10],[9,17,92],[10],[97],[10],[10]])
def a_w_FnExactVerifyCircuit:aJ:=⟨98,mkC pB.1,[.tmp 10],.false,.false⟩
theorem zg:OkF 7 a_w_FnExactVerifyCircuit:=okq func7
def IJ:=cv (a:=gT f33 [[3,4,5],[6]])
def ui:aJ:=⟨56,mkC IJ.1,[.tmp 6],.false,.false⟩
theorem PC:OkF 33 ui:=okq func33
def mS:=cv (a:=gT f34 [[1,3,5],[1,3,5,54],[6],[1,3,5,7],[1,3,5,7,57],[1,3,5,7,89],[6],[1,3,5,7],[1,3,5,8],[1,3,5,8,94],[1,3,5,8,9],[1,3,5,8,9,120],[6],[1,3,5,8,9,10],[1,3,5,8,9,10,123],[1,3,5,8,9,10,139],[6],[1,3,5,8,9,10,11],[1,3,5,8,9,10,11,147],[1,3,5,8,9,10,11,159],[6],[1,3,5,8,9,10,11],[1,3,5,8,9,10],[1,3,5,8],[6]] [(.close [7013]),(.close [12005,13009]),(.close []),(.close [])])
def uL:aJ:=⟨160,mkC mS.1,[.tmp 6],.false,.false⟩
def EG:=cv (a:=lp mS.1 0)
def Eh:aQ:=mkC EG.1
def Ej:=cv (a:=lp mS.1 1)
def Eo:aQ:=mkC Ej.1
def Br:=cv (a:=lp mS.1 2)
def By:aQ:=mkC Br.1
def BC:=cv (a:=lp mS.1 3)
def Bq:aQ:=mkC BC.1
theorem RV:OkF 34 uL:=okq func34
def B1:=cv (a:=gT f36 [[1],[1,9],[2],[1,11,12,13],[1,11,12,13,14],[1,3,4,11,12,13],[1,11,12,13,21],[2],[1,11,12,13],[2]] [(.close [6003,7002])])
def uN:aJ:=⟨26,mkC B1.1,[.tmp 2],.false,.false⟩
def Ev:=cv (a:=lp B1.1 0)
def E9:aQ:=mkC Ev.1
theorem Q9:OkF 36 uN:=okq func36
def IY:=cv (a:=gT f46 [[1,2],[1],[1,10],[4],[4]])
def uk:aJ:=⟨12,mkC IY.1,[.tmp 4],.false,.false⟩
theorem Rw:OkF 46 uk:=okq func46
def Nt:=cv (a:=gT f47 [[1,2],[1,2],[1,2,11],[4],[1,2],[1,2,17],[4],[1,2],[1,2,23],[4],[1],[1,29],[4],[4]])
def zM:aJ:=⟨31,mkC Nt.1,[.tmp 4],.false,.false⟩
theorem Xd:OkF 47 zM:=okq func47
def L8:=cv (a:=gT f48 [[1,2],[1,2],[1,2,10],[4],[1],[1,17],[4],[4]])
def wY:aJ:=⟨19,mkC L8.1,[.tmp 4],.false,.false⟩
theorem TR:OkF 48 wY:=okq func48
def Ao:=cv (a:=gT f49 [[2,5,6,8,9],[2,5,6,8,9,14],[10,11],[2,5,6,8,9,17],[10,11],[10,11]])
def nu:aJ:=⟨27,mkC Ao.1,[.tmp 10,.tmp 11],.false,.false⟩
theorem Js:OkF 49 nu:=okq func49
def IG:=cv (a:=gT f50 [[1,2],[1,2,3],[2,3],[2]])
def uO:aJ:=⟨9,mkC IG.1,[.cell 2 (.some 1)],.false,.false⟩
theorem Q3:OkF 50 uO:=okq func50
def J9:=cv (a:=gT f51 [[1,2],[1,2,3],[1,2,3],[1,2,3],[2,3],[2]])
def uS:aJ:=⟨14,mkC J9.1,[.cell 2 (.some 3)],.false,.false⟩
theorem PO:OkF 51 uS:=okq func51
def JL:=cv (a:=gT f52 [[0],[0,3],[0,3,4],[0,3,4,11],[0,3,4],[0,3,4],[2]] [(.close [])])
def DP:aJ:=⟨22,mkC JL.1,[.tmp 2],.false,.false⟩
def Lv:=cv (a:=lp JL.1 0)
def Lr:aQ:=mkC Lv.1
theorem a1y:OkF 52 DP:=okq func52
def N0:=cv (a:=gT f53 [[1,2],[1,2,3],[1,2,3],[1,2,3],[1,2,3],[1,2,3],[1,2,3],[1,2,3],[1,2,3],[2,3],[2]])
def zI:aJ:=⟨36,mkC N0.1,[.cell 2 (.some 17)],.false,.false⟩
theorem ZA:OkF 53 zI:=okq func53
def KT:=cv (a:=gT f54 [[1,2],[1,2,3],[1,2,3],[1,2,3],[1,2,3],[2,3],[2]])
def wW:aJ:=⟨18,mkC KT.1,[.cell 2 (.some 4)],.false,.false⟩
theorem Ue:OkF 54 wW:=okq func54
def Av:=cv (a:=gT f55 [[2,5,6,8,9],[2,5,6,8,9,12],[10,11],[2,5,6,8,9,16],[10,11],[10,11]])
def ni:aJ:=⟨29,mkC Av.1,[.tmp 10,.tmp 11],.false,.false⟩
theorem Jr:OkF 55 ni:=okq func55
def HO:=cv (a:=gT f56 [[2,3],[10],[4],[4]])
def uP:aJ:=⟨11,mkC HO.1,[.tmp 4],.false,.false⟩
theorem Q4:OkF 56 uP:=okq func56
def Jy:=cv (a:=gT f57 [[0,1],[0,1,10],[4],[0,1,5],[0,1,5,14],[0,1,5,25],[4],[0,1,5],[4]] [(.close [])])
def DN:aJ:=⟨26,mkC Jy.1,[.tmp 4],.false,.false⟩
def Kx:=cv (a:=lp Jy.1 0)
def LO:aQ:=mkC Kx.1
theorem a0t:OkF 57 DN:=okq func57
def Oc:=cv (a:=gT f58 [[2,3],[2,3,9],[4],[2,3,15],[4],[2,3,21],[4],[2,3,27],[4],[2,3,33],[4],[2,3,39],[4],[2,3,45],[4],[51],[4],[4]])
def Aj:aJ:=⟨52,mkC Oc.1,[.tmp 4],.false,.false⟩
theorem Zu:OkF 58 Aj:=okq func58
def KI:=cv (a:=gT f59 [[2,3],[2,3,10],[4],[2,3,15],[4],[2,3,20],[4],[25],[4],[4]])
def xv:aJ:=⟨26,mkC KI.1,[.tmp 4],.false,.false⟩
theorem U1:OkF 59 xv:=okq func59
def Rx:=cv (a:=gT f62 [[2,5,6,8,9],[2,5,6,8,9,12],[2,5,6,8,9,12,19],[10,11],[10,11]])
def Cx:aJ:=⟨29,mkC Rx.1,[.tmp 10,.tmp 11],.false,.false⟩
theorem a1i:OkF 62 Cx:=okq func62
def O3:=cv (a:=gT f63 [[3,4,5],[6]])
def zt:aJ:=⟨61,mkC O3.1,[.tmp 6],.false,.false⟩
theorem Xw:OkF 63 zt:=okq func63
def b1q:=cv (a:=gT f68 [[0,1,2],[6]])
def XJ:aJ:=⟨15,mkC b1q.1,[.tmp 6],.false,.false⟩
theorem b9Y:OkF 68 XJ:=okq func68
def HZ:=cv (a:=gT f71 [[1,2],[4]])
def ug:aJ:=⟨9,mkC HZ.1,[.tmp 4],.false,.false⟩
theorem Rf:OkF 71 ug:=okq func71
def VL:=cv (a:=gT f72 [[1],[2]])
def Hm:aJ:=⟨11,mkC VL.1,[.tmp 2],.false,.false⟩
theorem a5x:OkF 72 Hm:=okq func72
def j5:aQ:=(.seq (qS 1000 [qg 2 (.mv (.c (.slice .none 0 0)))] [0]) (.seq (.seq (qS 2000 [qm 3 0,qg 4 (.isNil .false (.t 3))] [0,4]) (.cond (.t 4) (.seq (qS 3000 [qg 2 (.mv (.c (.slice .none 0 0)))] [2]) .ret) .skip)) (.seq (qS 4000 [qg 5 (.buildSlice 2 z0 0 []),qm 6 0,qg 7 (.append 2 16 z0 (.t 5) (.t 6)),qm 2 7] [2]) .ret)))
def bF:aJ:=⟨8,j5,[.tmp 2],.true,.false⟩
theorem wh:OkF 73 bF:=okq func73
def HP:=cv (a:=gT f77 [[1],[2]])
def u6:aJ:=⟨16,mkC HP.1,[.tmp 2],.false,.false⟩
theorem PB:OkF 77 u6:=okq func77
def Kc:=cv (a:=gT f78 [[1],[2]])
def wX:aJ:=⟨27,mkC Kc.1,[.tmp 2],.false,.false⟩
theorem V8:OkF 78 wX:=okq func78
def Es:=cv (a:=gT f79 [[1],[2]])
def pQ:aJ:=⟨9,mkC Es.1,[.tmp 2],.false,.false⟩
theorem MZ:OkF 79 pQ:=okq func79
def i9:=cv (a:=gT f81 [[1,2],[1,2,3],[1,2,3,4],[1,2,3,4,29],[1,2,3,4],[1,2,3,5,6,7],[1,2,3,5,6,7,38,39,40],[1,2,3,5,6,7,38,39,40,41],[1,2,3,5,6,7,9,38,39,40],[1,2,3,5,6,7,38,39,40,46],[1,2,3,5,6,7,38,39,40],[1,2,3,5,6,7,38,39,40],[1,2,3,5,6,7,38,39,40],[1,2,3,5,10],[2,3,5,10,66,67,68],[2,3,5,10,66,67,68,69],[2,3,5,10,11,12,66,67,68],[2,3,5,10,66,67,68],[2,3,5,10,66,67,68],[2,3,5,10,66,67,68,69,89],[2,3,5,10,66,67,68,69],[2,3],[2]] [(.close [4001]),(.close [9002,11002,11003,12002,12003]),(.close [17003,18007]),(.close [])])
def mr:aJ:=⟨113,mkC i9.1,[.cell 2 (.some 6)],.false,.false⟩
def vo:=cv (a:=lp i9.1 0)
def w5:aQ:=mkC vo.1
def vi:=cv (a:=lp i9.1 1)
def vS:aQ:=mkC vi.1
def sU:=cv (a:=lp i9.1 2)
def sM:aQ:=mkC sU.1
def sR:=cv (a:=lp i9.1 3)
def sT:aQ:=mkC sR.1
theorem Hx:OkF 81 mr:=okq func81
def A8:=cv (a:=gT f83 [[1,2,3],[1,2,3,7],[1,2,3,7],[2,3,7],[7],[6]])
def nj:aJ:=⟨25,mkC A8.1,[.tmp 6],.false,.false⟩
theorem JH:OkF 83 nj:=okq func83
def CA:=cv (a:=gT f86 [[1],[1,23],[2],[1,25,26],[1,25,26,27],[1,4,25,26],[1,25,26,37],[2],[1,25,26],[2]] [(.close [7007])])
def xi:aJ:=⟨39,mkC CA.1,[.tmp 2],.false,.false⟩
def Q5:=cv (a:=lp CA.1 0)
def b5g:aQ:=mkC Q5.1
theorem Ur:OkF 86 xi:=okq func86
def HL:=cv (a:=gT f88 [[2,4,5,7],[2,4,5,7,9],[8],[2,4,7,13],[8],[7,32],[8],[38],[8],[8]])
def tX:aJ:=⟨42,mkC HL.1,[.tmp 8],.false,.false⟩
theorem SG:OkF 88 tX:=okq func88
def Kp:=cv (a:=gT f90 [[2,5,6,8,9],[2,5,6,8,9,18],[10,11],[2,5,6,8,12],[13],[10,11]])
def xc:aJ:=⟨29,mkC Kp.1,[.tmp 10,.tmp 11],.false,.false⟩
theorem V0:OkF 90 xc:=okq func90
def Yw:=cv (a:=gT f101 [[0,1,4],[0,1,4,5],[1,4,5,9,10,11],[1,4,5,9,10,11,12],[1,4,5,6,7,9,10,11],[1,4,5,9,10,11],[1,4,5,9,10,11],[4]] [(.close [5003,6006,6007])])
def Pl:aJ:=⟨26,mkC Yw.1,[.cell 4 (.some 2)],.false,.false⟩
def Wl:=cv (a:=lp Yw.1 0)
def W1:aQ:=mkC Wl.1
theorem b3G:OkF 101 Pl:=okq func101
def zF:=cv (a:=gT f102 [[0],[0,3],[3,12,13,14],[3,12,13,14,15],[3,5,12,13,14],[3,5,6,7,12,13,14],[5,6,7,12,13,14,20,21,22],[5,6,7,12,13,14,20,21,22,23],[5,6,7,9,12,13,14,20,21,22],[5,6,7,12,13,14,20,21,22],[5,6,7,12,13,14,20,21,22],[3,12,13,14],[3,12,13,14],[2]] [(.close [5002,6000,6001,9002,10002,10004,10005,10006,10007,10011,10012,10013,12002,2001]),(.close [9002,10002,10004,10005,10006,10007,10011,10012,10013])])
def A0:aJ:=⟨46,mkC zF.1,[.tmp 2],.false,.false⟩
def Ib:=cv (a:=lp zF.1 0)
def Iv:aQ:=mkC Ib.1
def HS:=cv (a:=lp zF.1 1)
def Ia:aQ:=mkC HS.1
theorem WF:OkF 102 A0:=okq func102
def HC:=cv (a:=gT f105 [[1],[2]])
def u5:aJ:=⟨16,mkC HC.1,[.tmp 2],.false,.false⟩
theorem T7:OkF 105 u5:=okq func105
def K2:=cv (a:=gT f106 [[1],[2]])
def xh:aJ:=⟨28,mkC K2.1,[.tmp 2],.false,.false⟩
theorem U6:OkF 106 xh:=okq func106
def LN:=cv (a:=gT f108 [[1,2],[4]])
def xr:aJ:=⟨17,mkC LN.1,[.tmp 4],.false,.false⟩
theorem Tp:OkF 108 xr:=okq func108
def zQ:=cv (a:=gT f112 [[1,2],[1,2],[2]])
def ng:aJ:=⟨8,mkC zQ.1,[.cell 2 (.some 4)],.false,.false⟩
theorem JE:OkF 112 ng:=okq func112
def tw:=cv (a:=gT f113 [[1,2,6,9,10,11],[1,2,6,9,10,11,13],[1,2,6,10,11,13,14,15,16],[1,2,6,10,11,13,14,15,16,34],[12],[1,6,10,11,13,14,38],[12],[1,6,10,11,13,14],[1,6,10,11,13,14,60],[12],[1,6,10,11,13,14],[6,10,11,14,17,18],[11,14,17,18,82,83,84],[11,14,17,18,82,83,84,85],[11,14,17,18,19,20,82,83,84],[11,14,17,18,21,82,83,84],[11,14,17,18,21,82,83,84,101],[12],[11,14,17,18,82,83,84],[12]] [(.close [16010])])
def oJ:aJ:=⟨104,mkC tw.1,[.tmp 12],.false,.false⟩
def wC:=cv (a:=lp tw.1 0)
def wD:aQ:=mkC wC.1
theorem KO:OkF 113 oJ:=okq func113
def VS:=cv (a:=gT f114 [[1],[2]])
def GY:aJ:=⟨11,mkC VS.1,[.tmp 2],.false,.false⟩
theorem a3X:OkF 114 GY:=okq func114
def Vr:=cv (a:=gT f115 [[0,1,2],[6]])
def H4:aJ:=⟨15,mkC Vr.1,[.tmp 6],.false,.false⟩
theorem a4k:OkF 115 H4:=okq func115
def xj:=cv (a:=gT f116 [[0,1,2,10,11,12,13,14],[1,2,10,11,12,13,14,16],[1,2,10,11,12,13,14,16,17],[1,2,11,12,13,14,16,17,18],[1,2,11,12,13,14,16,17,18,19],[1,2,11,12,13,14,16,17,18,19,36],[1,2,11,12,13,14,16,17,18,19,20],[1,2,11,12,13,14,16,17,18,19,20,52],[14,15],[1,2,11,12,13,14,16,17,18,19,20],[1,2,11,12,13,14,16,17,18,19,20,21,22],[1,2,11,12,13,14,16,17,18,19,20,22],[1,2,11,12,13,14,16,17,18,19,22],[1,2,11,12,13,14,16,17,18,19],[1,2,11,12,13,14,16,17,18,19,73],[1,2,11,12,13,14,16,17,18,19],[1,2,11,12,13,14,16,17,18,19],[1,11,12,13,14,16,17,88],[14,15],[1,11,12,13,14,16,17],[1,11,12,13,14,16,17,101],[14,15],[1,11,12,13,14,16,17],[1,11,12,13,14,16,17,23],[1,12,13,14,16,17,23,24],[1,12,13,14,16,17,23,24,25],[1,12,13,14,16,17,23,24,25,127],[1,12,13,14,16,17,23,24,25,26],[1,12,13,14,16,17,23,24,25,26,146],[14,15],[1,12,13,14,16,17,23,24,25],[14,15]] [(.close [9006,11002,12001,12005,12006,14002,15002,15003,17006]),(.close [29014])])
def wH:aJ:=⟨150,mkC xj.1,[.cell 14 (.some 4),.tmp 15],.false,.false⟩
def FA:=cv (a:=lp xj.1 0)
def Ge:aQ:=mkC FA.1
def E3:=cv (a:=lp xj.1 1)
def EJ:aQ:=mkC E3.1
theorem Tu:OkF 116 wH:=okq func116
def Iy:=cv (a:=gT f117 [[0,1,5],[6]])
def tV:aJ:=⟨17,mkC Iy.1,[.tmp 6],.false,.false⟩
theorem PP:OkF 117 tV:=okq func117
def Gt:=cv (a:=gT f118 [[1,2],[4]])
def rR:aJ:=⟨9,mkC Gt.1,[.tmp 4],.false,.false⟩
theorem OS:OkF 118 rR:=okq func118
def Rq:=cv (a:=gT f119 [[0],[2]])
def CD:aJ:=⟨6,mkC Rq.1,[.tmp 2],.false,.false⟩
theorem a2Y:OkF 119 CD:=okq func119
def EL:=cv (a:=gT f120 [[1,2],[4]])
def qz:aJ:=⟨9,mkC EL.1,[.tmp 4],.false,.false⟩
theorem MM:OkF 120 qz:=okq func120
def Ed:=cv (a:=gT f121 [[1,2,3],[4]])
def qr:aJ:=⟨9,mkC Ed.1,[.tmp 4],.false,.false⟩
theorem M0:OkF 121 qr:=okq func121
def EX:=cv (a:=gT f122 [[1,3,5],[1,3,5,27],[6],[1,5,29,30,31],[1,5,29,30,31,32],[1,5,7,8,29,30,31],[1,5,29,30,31,50],[6],[1,5,29,30,31],[6]] [(.close [7012])])
def zo:aJ:=⟨52,mkC EX.1,[.tmp 6],.false,.false⟩
def It:=cv (a:=lp EX.1 0)
def Ip:aQ:=mkC It.1
theorem Y3:OkF 122 zo:=okq func122
def Fs:=cv (a:=gT f123 [[0],[0,3],[0,3,7],[0,3,15],[2],[0,3],[2]] [(.close [5004])])
def An:aJ:=⟨16,mkC Fs.1,[.tmp 2],.false,.false⟩
def HE:=cv (a:=lp Fs.1 0)
def J2:aQ:=mkC HE.1
theorem Wu:OkF 123 An:=okq func123
def PX:=cv (a:=gT f127 [[1,2],[1,2,5,6,7],[1,2,5,6,7,18],[1,2,5,6,7,18,19],[2,5,6,7],[1,2,5,6,7,18,24],[1,2,5,6,7,18,24],[1,2,5,6,7,18,24],[1,2,5,6,7,18,24],[2,5,6,7],[1,2,5,6,7,39],[2,5,6,7],[4]])
def CG:aJ:=⟨58,mkC PX.1,[.tmp 4],.false,.false⟩
theorem a3b:OkF 127 CG:=okq func127
def pq:=cv (a:=gT f128 [[1,2],[1,2,5],[1,5,9,10,11],[1,5,9,10,11,12],[1,5,7,9,10,11],[1,5,9,10,11,18],[1,5,9,10,11],[1,5,9,10,11],[4]] [(.close [5002])])
def kU:aJ:=⟨23,mkC pq.1,[.tmp 4],.false,.false⟩
def sS:=cv (a:=lp pq.1 0)
def sP:aQ:=mkC sS.1
theorem GJ:OkF 128 kU:=okq func128
def O4:=cv (a:=gT f131 [[1,2],[4]])
def zT:aJ:=⟨9,mkC O4.1,[.tmp 4],.false,.false⟩
theorem X9:OkF 131 zT:=okq func131
def N3:=cv (a:=gT f132 [[0],[2]])
def zD:aJ:=⟨5,mkC N3.1,[.tmp 2],.false,.false⟩
theorem XL:OkF 132 zD:=okq func132
def EB:=cv (a:=gT f133 [[1],[2]])
def qj:aJ:=⟨7,mkC EB.1,[.tmp 2],.false,.false⟩
theorem MF:OkF 133 qj:=okq func133
def tZ:=cv (a:=gT f137 [[1,2],[1,2,3,4],[1,2,3,5],[1,2,3,5,6],[1,2,3,5,6,7],[1,2,3,5,6,7,26],[1,2,3,5,6,7,8],[1,2,3,5,6,7,8,35],[1,2,3,5,6,7,8,35,36],[1,2,3,5,6,7,8,35,36],[1,2,3,5,6,7,8,35,39],[1,2,3,5,6,7,8],[1,2,3,5,6,7],[1,2,3,5,6,7,8,35,61],[1,2,3,5,6,7,8,35,61],[1,2,3,5,6,7,8],[1,2,3,5,6,7,8,9],[1,2,3,5,6,7,8,9,76],[1,2,3,5,6,7,8,9],[1,2,3,5,6,7],[1,2,3,5,6,7],[1,2,3,5,6,7,8,35,93],[1,2,3,5,6,7,8,97],[1,2,3,5,6,7],[1,2,3,5,6,7],[1,2,3,5,6,7,8,35,110],[1,2,3,5,6,7,8],[1,2,3,5,6,7,8],[1,2,3,5,6,7,8],[1,2,3,5,6,7,8],[1,2,3,5,6,7],[1,2,3,5,6,7],[1,2,3,5,6,7,8,153],[1,2,3,5,6,7,8],[1,2,3,5,6,7,8],[1,2,3,5,6,7,8],[1,2,3,5,6,7,8],[1,2,3,5,6,7],[1,2,3,5,6,7],[1,2,3,5,6,7],[1,2,3,5,6,7],[1,2,3,5,6,7],[2,5,6],[2,5,6,218],[2,5,6],[2]] [(.close [8005,13008,14008,17008,21009,22003,25005,26003,28008,29003,30007,32008,33003,35008,36008,37007,39008,40003,41007,3003,3004,3005]),(.close [])])
def um:aJ:=⟨224,mkC tZ.1,[.cell 2 (.some 6)],.false,.false⟩
def Ex:=cv (a:=lp tZ.1 0)
def DU:aQ:=mkC Ex.1
def C7:=cv (a:=lp tZ.1 1)
def BK:aQ:=mkC C7.1
theorem Sz:OkF 137 um:=okq func137
def Ay:=cv (a:=gT f139 [[1],[1,8],[2],[1,3],[1,3,13],[1,3,23],[2],[1,3],[2]] [(.close [7006])])
def ux:aJ:=⟨27,mkC Ay.1,[.tmp 2],.false,.false⟩
def EE:=cv (a:=lp Ay.1 0)
def Ef:aQ:=mkC EE.1
theorem Td:OkF 139 ux:=okq func139
def zs:=cv (a:=gT f140 [[3,4,5],[3,4,5,51],[6],[3,4,5,7],[3,4,5,7,56],[3,4,5,7,74],[6],[3,4,5,7],[3,4,5,8],[3,4,5,8,79],[3,4,5,8,97],[6],[3,4,5,8],[6]] [(.close [7013]),(.close [12013])])
def A9:aJ:=⟨105,mkC zs.1,[.tmp 6],.false,.false⟩
def IX:=cv (a:=lp zs.1 0)
def Il:aQ:=mkC IX.1
def IW:=cv (a:=lp zs.1 1)
def Is:aQ:=mkC IW.1
theorem Zb:OkF 140 A9:=okq func140
def Rs:=cv (a:=gT f142 [[2,4,5,7],[2,4,5,7,9],[8],[2,4,7,13],[8],[7,32],[8],[38],[8],[8]])
def D0:aJ:=⟨41,mkC Rs.1,[.tmp 8],.false,.false⟩
theorem a3g:OkF 142 D0:=okq func142
def J7:=cv (a:=gT f144 [[2,5,6,8,9],[2,5,6,8,11],[2,5,6,8,11,12],[2,5,6,8,11,12,13,14,15],[2,5,6,8,11,12,13,14,15,51],[10],[2,5,6,8,11,13,14,65],[10],[2,5,6,8,11,13,14],[2,5,6,8,11,13,14,16],[2,5,6,8,11,13,14,16,17],[2,5,6,8,11,13,14,15,16,18],[2,5,6,8,11,13,14,15,16,18,113],[10],[2,5,6,8,11,13,14,16,18,19],[2,5,6,8,11,13,14,16,18,19,20],[5,6,8,11,13,14,16,18,19,21],[5,6,8,11,14,19,21,22],[5,6,8,11,19,148],[10],[5,6,8,11,19],[15],[10]])
def ur:aJ:=⟨171,mkC J7.1,[.tmp 10],.false,.false⟩
theorem PN:OkF 144 ur:=okq func144
def NS:=cv (a:=gT f145 [[0,1],[1],[1,10],[4],[4]])
def As:aJ:=⟨12,mkC NS.1,[.tmp 4],.false,.false⟩
theorem WI:OkF 145 As:=okq func145
def Fo:=cv (a:=gT f146 [[0,1],[0,1],[0,1,11],[4],[0,1,5],[0,1,5,15],[0,1,5],[0,1,5,25],[4],[0,1,5],[4]] [(.close [8005])])
def Ae:aJ:=⟨27,mkC Fo.1,[.tmp 4],.false,.false⟩
def HM:=cv (a:=lp Fo.1 0)
def J6:aQ:=mkC HM.1
theorem Ys:OkF 146 Ae:=okq func146
def IL:=cv (a:=gT f147 [[1,2],[1,2],[1,2,10],[4],[1,2],[1,2,16],[4],[1],[1,22],[4],[4]])
def u2:aJ:=⟨24,mkC IL.1,[.tmp 4],.false,.false⟩
theorem Sn:OkF 147 u2:=okq func147
def S6:=cv (a:=gT f148 [[0,1],[1],[1,10],[4],[4]])
def DG:aJ:=⟨12,mkC S6.1,[.tmp 4],.false,.false⟩
theorem a2N:OkF 148 DG:=okq func148
def R9:=cv (a:=gT f149 [[2,5,6,8,9],[2,5,6,8,9,16],[10,11],[2,5,6,8,9,12],[2,5,6,8,9,12,23],[10,11],[2,5,6,8,9,29],[10,11],[13],[10,11]])
def Cp:aJ:=⟨39,mkC R9.1,[.tmp 10,.tmp 11],.false,.false⟩
theorem a1f:OkF 149 Cp:=okq func149
def FO:=cv (a:=gT f150 [[0],[0,3],[0,3,4],[0,3,4,11],[0,3,4],[0,3,4],[2]] [(.close [6006])])
def zW:aJ:=⟨23,mkC FO.1,[.tmp 2],.false,.false⟩
def HN:=cv (a:=lp FO.1 0)
def IT:aQ:=mkC HN.1
theorem YL:OkF 150 zW:=okq func150
def GH:=cv (a:=gT f151 [[0],[0,3],[0,3,4],[0,3,4,11],[0,3,4],[0,3,4],[2]] [(.close [6006])])
def Au:aJ:=⟨23,mkC GH.1,[.tmp 2],.false,.false⟩
def HH:=cv (a:=lp GH.1 0)
def Ie:aQ:=mkC HH.1
theorem XO:OkF 151 Au:=okq func151
def Vw:=cv (a:=gT f152 [[1,2],[1,2,3],[1,2,3],[2,3],[2]])
def GV:aJ:=⟨11,mkC Vw.1,[.cell 2 (.some 2)],.false,.false⟩
theorem a62:OkF 152 GV:=okq func152
def Iq:=cv (a:=gT f153 [[1,2],[1,2,3],[1,2,3],[1,2,3],[1,2,3],[1,2,3],[2,3],[2]])
def uh:aJ:=⟨24,mkC Iq.1,[.cell 2 (.some 6)],.false,.false⟩
theorem Qo:OkF 153 uh:=okq func153
def Jp:=cv (a:=gT f154 [[0],[0,3],[0,3,4],[0,3,4,11],[0,3,4],[0,3,4],[2]] [(.close [6006])])
def CM:aJ:=⟨23,mkC Jp.1,[.tmp 2],.false,.false⟩
def LH:=cv (a:=lp Jp.1 0)
def Kt:aQ:=mkC LH.1
theorem a3G:OkF 154 CM:=okq func154
def FN:=cv (a:=gT f155 [[0,1],[0,1,10],[4],[0,1,5],[0,1,5,14],[0,1,5,26],[4],[0,1,5],[4]] [(.close [7008])])
def Ad:aJ:=⟨27,mkC FN.1,[.tmp 4],.false,.false⟩
def IQ:=cv (a:=lp FN.1 0)
def HT:aQ:=mkC IQ.1
theorem Yi:OkF 155 Ad:=okq func155
def FJ:=cv (a:=gT f156 [[0,1],[0,1,10],[4],[0,1,5],[0,1,5,14],[0,1,5,26],[4],[0,1,5],[4]] [(.close [7008])])
def Ap:aJ:=⟨27,mkC FJ.1,[.tmp 4],.false,.false⟩
def HQ:=cv (a:=lp FJ.1 0)
def Ik:aQ:=mkC HQ.1
theorem Y8:OkF 156 Ap:=okq func156
def Vo:=cv (a:=gT f157 [[2,3],[2,3,9],[4],[14],[4],[4]])
def H8:aJ:=⟨15,mkC Vo.1,[.tmp 4],.false,.false⟩
theorem a4I:OkF 157 H8:=okq func157
def IP:=cv (a:=gT f158 [[2,3],[2,3,10],[4],[2,3,16],[4],[2,3,22],[4],[2,3,27],[4],[33],[4],[4]])
def uH:aJ:=⟨34,mkC IP.1,[.tmp 4],.false,.false⟩
theorem PR:OkF 158 uH:=okq func158
def JC:=cv (a:=gT f159 [[0,1],[0,1,10],[4],[0,1,5],[0,1,5,14],[0,1,5,26],[4],[0,1,5],[4]] [(.close [7008])])
def CK:aJ:=⟨27,mkC JC.1,[.tmp 4],.false,.false⟩
def KQ:=cv (a:=lp JC.1 0)
def L3:aQ:=mkC KQ.1
theorem a2P:OkF 159 CK:=okq func159
def a7x:=cv (a:=gT f164 [[0,1],[4]])
def Pe:aJ:=⟨9,mkC a7x.1,[.tmp 4],.false,.false⟩
theorem b2k:OkF 164 Pe:=okq func164
def jA:=cv (a:=gT f166 [[0,1],[4]])
def dU:aJ:=⟨9,mkC jA.1,[.tmp 4],.false,.false⟩
theorem px:OkF 166 dU:=okq func166
def DS:=cv (a:=gT f167 [[1,2],[3]])
def pZ:aJ:=⟨8,mkC DS.1,[.tmp 3],.false,.false⟩
theorem Ma:OkF 167 pZ:=okq func167
def SR:=cv (a:=gT f168 [[0],[2]])
def Du:aJ:=⟨7,mkC SR.1,[.tmp 2],.false,.false⟩
theorem a26:OkF 168 Du:=okq func168
def a7f:=cv (a:=gT f170 [[0,1],[4]])
def Pj:aJ:=⟨10,mkC a7f.1,[.tmp 4],.false,.false⟩
theorem b65:OkF 170 Pj:=okq func170
def a7t:=cv (a:=gT f171 [[0,1],[4]])
def Po:aJ:=⟨9,mkC a7t.1,[.tmp 4],.false,.false⟩
theorem b5t:OkF 171 Po:=okq func171
def Gb:=cv (a:=gT f172 [[0,2,5,7],[0,2,5,7,8],[0,2,5,7,8,11],[0,2,5,7,8,11,12],[],[0,2,5,7,8,11,21],[],[0,2,5,7,8,11,35],[],[0,2,5,7,8,11,49],[],[0,2,5,7,8,11,63],[0,2,5,8],[],[0,2,5,7,8,79],[0,2,5,8],[]])
def rU:aJ:=⟨100,mkC Gb.1,[],.false,.false⟩
theorem Ol:OkF 172 rU:=okq func172
def DD:=cv (a:=gT f175 [[0],[0,3],[3,7,8,9],[3,7,8,9,10],[3,5,7,8,9],[3,7,8,9],[3,7,8,9],[2]] [(.close [5002,6003,6006])])
def wR:aJ:=⟨22,mkC DD.1,[.tmp 2],.false,.false⟩
def Fj:=cv (a:=lp DD.1 0)
def GC:aQ:=mkC Fj.1
theorem Tv:OkF 175 wR:=okq func175
def wB:=cv (a:=gT f177 [[1,2],[2]])
def kS:aJ:=⟨10,mkC wB.1,[.cell 2 (.some 3)],.false,.false⟩
theorem Gq:OkF 177 kS:=okq func177
def D6:=cv (a:=gT f178 [[0,1,2],[0,1,2,9,10,11],[0,1,2,9,10,11,12],[0,1,2,7,8,9,10,11],[0,1,2,9,10,11,49],[6],[0,1,2,9,10,11],[6]] [(.close [4003,5004,5011,5017,5030])])
def wJ:aJ:=⟨54,mkC D6.1,[.tmp 6],.false,.false⟩
def FQ:=cv (a:=lp D6.1 0)
def F4:aQ:=mkC FQ.1
theorem U2:OkF 178 wJ:=okq func178
def zn:=cv (a:=gT f184 [[0,3,6,7,9],[0,3,6,7,9],[0,3,6,7,9],[0,3,6,7,9,11],[0,3,6,7,9,11,12,13,14],[0,3,6,7,9,11,12,13,14,44],[10],[0,3,6,7,9,12,13,48],[10],[0,3,6,7,9,12,13],[0,3,6,7,9,12,13,15],[0,3,6,7,9,12,13,14,15,16],[0,3,6,7,9,12,13,14,15,16,91],[10],[0,3,6,7,9,12,13,15,16,17,18],[0,3,6,7,9,13,17,18,19],[0,7,9,17,124],[10],[0,7,9,17],[10]])
def na:aJ:=⟨140,mkC zn.1,[.tmp 10],.false,.false⟩
theorem JU:OkF 184 na:=okq func184
def Dj:=cv (a:=gT f187 [[1,2],[1,2,5],[1,2,5,6],[1,2,5,6,11],[1,2,5,6],[1,2,5,6],[4]] [(.close [6009])])
def xd:aJ:=⟨26,mkC Dj.1,[.tmp 4],.false,.false⟩
def GO:=cv (a:=lp Dj.1 0)
def GE:aQ:=mkC GO.1
theorem Vd:OkF 187 xd:=okq func187
def Nw:=cv (a:=gT f188 [[0],[0,3],[2],[6],[2],[2]])
def Ak:aJ:=⟨9,mkC Nw.1,[.tmp 2],.false,.false⟩
theorem ZR:OkF 188 Ak:=okq func188
def Ix:=cv (a:=gT f191 [[1,2,4],[2,4],[2,4],[4]])
def u4:aJ:=⟨19,mkC Ix.1,[.cell 4 (.some 4)],.false,.false⟩
theorem Sm:OkF 191 u4:=okq func191
def O8:=cv (a:=gT f192 [[1,2,3],[1,2,3,9],[1,2,3,4],[1,2,3,4],[2,3],[1,2,3,5],[1,2,3,5],[2,3]])
def A6:aJ:=⟨47,mkC O8.1,[.cell 2 (.some 4),.cell 3 (.some 2)],.false,.false⟩
theorem Ym:OkF 192 A6:=okq func192
def IK:=cv (a:=gT f198 [[2,3,4],[4]])
def tW:aJ:=⟨16,mkC IK.1,[.cell 4 (.some 2)],.false,.false⟩
theorem RE:OkF 198 tW:=okq func198
def LL:=cv (a:=gT f199 [[2,3,4],[4]])
def wS:aJ:=⟨16,mkC LL.1,[.cell 4 (.some 2)],.false,.false⟩
theorem Un:OkF 199 wS:=okq func199
def IR:=cv (a:=gT f200 [[2,3,4],[4]])
def ud:aJ:=⟨29,mkC IR.1,[.cell 4 (.some 2)],.false,.false⟩
theorem SD:OkF 200 ud:=okq func200
def a6E:=cv (a:=gT f201 [[0],[0]])
def Pk:aJ:=⟨2,mkC a6E.1,[.cell 0 (.some 2)],.false,.false⟩
theorem b2f:OkF 201 Pk:=okq func201
def Hk:=cv (a:=gT f204 [[0],[0,3],[0,3,4],[0,3,4,12],[0,3,4,5],[0,3,4,5,6],[0,3,4,5,6,22],[0,3,4,5,6],[0,3,4,5,6],[0,3,4,5,6],[0,3,4],[0,3,4],[2]] [(.close [6003,10010,10011,11013,2001]),(.close [10010,10011,11013])])
def GX:aJ:=⟨55,mkC Hk.1,[.tmp 2],.false,.false⟩
def NY:=cv (a:=lp Hk.1 0)
def N9:aQ:=mkC NY.1
def O0:=cv (a:=lp Hk.1 1)
def Nm:aQ:=mkC O0.1
theorem a3U:OkF 204 GX:=okq func204
def NI:=cv (a:=gT f207 [[1,2,4],[4]])
def Ah:aJ:=⟨10,mkC NI.1,[.cell 4 (.some 4)],.false,.false⟩
theorem XZ:OkF 207 Ah:=okq func207
def AS:=cv (a:=gT f213 [[0,1],[0,1,5],[0,5,6],[0,5,6,11],[0,5,6],[0,5,6],[4]] [(.close [6007,6008])])
def uK:aJ:=⟨24,mkC AS.1,[.tmp 4],.false,.false⟩
def DT:=cv (a:=lp AS.1 0)
def DX:aQ:=mkC DT.1
theorem RT:OkF 213 uK:=okq func213
def Bb:=cv (a:=gT f214 [[1,2,3,6],[1,2,6,8,9],[1,2,6,8,9,10],[1,2,6,8,9,10,11],[1,2,6,8,9,10,11,21],[1,2,6,8,9,10,11],[1,2,6,8,9,10,11],[6,7]] [(.close [7008,7009])])
def u7:aJ:=⟨36,mkC Bb.1,[.cell 6 (.some 4),.tmp 7],.false,.false⟩
def Ek:=cv (a:=lp Bb.1 0)
def Eb:aQ:=mkC Ek.1
theorem QW:OkF 214 u7:=okq func214
def AU:aQ:=(.seq (.seq (qS 3000 [qm 12 3,qn 13 12,qB 14 .rem 13 136,qB 15 .neq 14 0] [3,15]) (.cond (.t 15) .skip (.exit 0))) (.block 1 (qS 4000 [qm 16 3,qg 17 (.buildSlice 1 [(.int .u8 0)] 1 [(0,(.c (.int .u8 0)))]),qg 18 (.append 1 1 [(.int .u8 0)] (.t 16) (.t 17)),qm 3 18] [3])))
def yH:aQ:=(.seq (.seq (qS 12000 [qm 41 7,qB 42 .lss 41 25] [3,4,5,6,7,42]) (.cond (.t 42) .skip (.exit 4))) (.seq (.block 5 (.drawn 14000 [qm 45 7,qX 46 25 1 4 45,ql 47 46,qm 48 7,qX 49 25 1 6 48,ql 50 49,qb 51 .xor 47 50,qX 52 25 1 4 45,qu 1 52 51] [[],[0],[1,0],[],[3],[4,3],[2,1,0,5,4,3],[0,1,2,3,4,5,6],[7,0,1,2,3,4,5,6]] [3,4,5,6,7])) (qS 13000 [qm 43 7,qB 44 .add 43 1,qm 7 44] [3,4,5,6,7])))
def B3:aQ:=(.seq (.seq (qS 8000 [qm 28 5,qm 29 3,qn 30 29,qb 31 .lss 28 30] [3,4,5,31]) (.cond (.t 31) .skip (.exit 2))) (.seq (.block 3 (.seq (qS 10000 [qm 34 3,qm 35 5,qm 36 5,qB 37 .add 36 136,qg 38 (.slice 1 (.t 34) (.some (.t 35)) (.some (.t 37)) .none),qg 39 (.toStr (.t 38)),qc 40 321 [39],qg 6 (.alloc (zar .u64 25)),qu 25 6 40] [3,4,5,6]) (.seq (.seq (qS 11000 [qi 7 0] [3,4,5,6,7]) (.block 4 (.loop (pO (.close []) yH)))) (qS 15000 [qL 53 25 4,qc 54 322 [53],qu 25 4 54] [3,4,5])))) (qS 9000 [qm 32 5,qB 33 .add 32 136,qm 5 33] [3,4,5])))
def NF:aQ:=(.seq (qS 1000 [qg 2 (.mv (.c (.string ⟨⟨[]⟩⟩)))] [0]) (.seq (qS 2000 [qm 8 0,qg 9 (.toBytes (.t 8)),qg 10 (.buildSlice 1 [(.int .u8 0)] 1 [(0,(.c (.int .u8 1)))]),qg 11 (.append 1 1 [(.int .u8 0)] (.t 9) (.t 10)),qm 3 11] [3]) (.seq (.block 0 (.loop (pO (.close [4001,4002]) AU))) (.seq (qS 5000 [qm 19 3,qm 20 3,qn 21 20,qB 22 .sub 21 1,qx 23 1 19 22,ql 24 23,qg 25 (.bin .or (.t 24) (.c (.int .u8 128))),qx 26 1 19 22,qu 1 26 25] [3]) (.seq (qS 6000 [qg 27 (.build (zar .u64 25) []),qg 4 (.alloc (zar .u64 25)),qu 25 4 27] [3,4]) (.seq (.seq (qS 7000 [qi 5 0] [3,4,5]) (.block 2 (.loop (pO (.close [10006,10007,15001,2001]) B3)))) (.seq (qS 16000 [qL 55 25 4,qg 56 (.call 323 [(.t 55),(qI 32)]),qm 2 56] [2]) .ret)))))))
def zz:aJ:=⟨57,NF,[.tmp 2],.false,.false⟩
theorem YX:OkF 218 zz:=okq func218
def kq:=cv (a:=gT f219 [[0,1,3,4,7,11],[0,1,3,4,7,11,13],[0,1,4,7,11,13,18,19,20],[0,1,4,7,11,13,18,19,20,21],[0,1,4,7,11,13,14,15,18,19,20],[0,1,4,7,11,13,14,15,18,19,20,25],[10,11,12],[0,1,4,7,11,13,14,15,18,19,20,33],[10,11,12],[0,1,4,7,11,13,14,15,18,19,20],[0,1,4,7,11,13,14,15,16,18,19,20],[0,1,4,7,11,13,14,18,19,20],[0,1,4,7,11,13,18,19,20],[0,1,4,7,11,13,18,19,20],[10,11,12]] [(.close [6003,8006,10002,11001,11002,12002,12005,12006,13002])])
def fV:aJ:=⟨62,mkC kq.1,[.tmp 10,.cell 11 (.some 2),.tmp 12],.false,.false⟩
def mm:=cv (a:=lp kq.1 0)
def jb:aQ:=mkC mm.1
theorem EW:OkF 219 fV:=okq func219
def yj:=cv (a:=gT f220 [[0,2,3,8],[]])
def mi:aJ:=⟨17,mkC yj.1,[],.false,.false⟩
theorem Hz:OkF 220 mi:=okq func220
def zq:=cv (a:=gT f221 [[]])
def nh:aJ:=⟨23,mkC zq.1,[],.false,.false⟩
theorem JM:OkF 221 nh:=okq func221
def QG:=cv (a:=gT f222 [[0,1,4],[0,1,4,5],[1,4,5,9,10,11],[1,4,5,9,10,11,12],[1,4,5,6,7,9,10,11],[1,4,5,9,10,11],[1,4,5,9,10,11],[4]] [(.close [5003,6006,6007,6009,6010,6015,6016,6017,6018])])
def K9:aJ:=⟨37,mkC QG.1,[.cell 4 (.some 2)],.false,.false⟩
def Qr:=cv (a:=lp QG.1 0)
def Sv:aQ:=mkC Qr.1
theorem a8E:OkF 222 K9:=okq func222
def sL:=cv (a:=gT f223 [[]])
def jO:aJ:=⟨8,mkC sL.1,[],.false,.false⟩
theorem DL:OkF 223 jO:=okq func223
def DY:=cv (a:=gT f224 [[1,2,3],[1,7],[6]] [] [(2,.close [2009])])
def pU:aJ:=⟨25,mkC DY.1,[.tmp 6],.false,.false⟩
theorem Ml:OkF 224 pU:=okq func224
def RH:=cv (a:=gT f225 [[0,1],[4]])
def Cc:aJ:=⟨19,mkC RH.1,[.tmp 4],.false,.false⟩
theorem a8B:OkF 225 Cc:=okq func225
def Jf:=cv (a:=gT f226 [[0,1],[0,1,5],[1,5,9,10,11],[1,5,9,10,11,12],[1,5,7,9,10,11],[1,5,9,10,11],[1,5,9,10,11],[4]] [(.close [5002,6005,6006])])
def CT:aJ:=⟨24,mkC Jf.1,[.tmp 4],.false,.false⟩
def Kz:=cv (a:=lp Jf.1 0)
def Lw:aQ:=mkC Kz.1
theorem a1R:OkF 226 CT:=okq func226
def tH:=cv (a:=gT f227 [[0,1],[0,1,5],[0,5,7,8],[0,5,7,8,9],[0,5,7,8],[0,5,7,8],[4]] [(.close [5002,5003,5004])])
def oH:aJ:=⟨17,mkC tH.1,[.tmp 4],.false,.false⟩
def z6:=cv (a:=lp tH.1 0)
def y0:aQ:=mkC z6.1
theorem K8:OkF 227 oH:=okq func227
def yA:=cv (a:=gT f228 [[0,1,2,3,10,11],[0,1,2,3,10,11,13],[1,2,3,10,11,13,22,23,24],[1,2,3,10,11,13,22,23,24,25],[1,2,3,10,11,13,14,15,22,23,24],[1,2,3,10,11,13,14,15,16,22,23,24],[1,2,3,10,11,13,14,15,16,17,18,19,22,23,24],[1,2,3,10,11,13,14,16,17,18,19,22,23,24,64],[12],[1,2,3,10,11,13,14,16,17,18,19,20,22,23,24],[1,2,10,11,13,14,16,17,18,19,20,22,23,24,69],[1,2,10,11,13,14,16,17,18,19,20,22,23,24],[1,2,10,11,13,14,16,17,18,19,22,23,24,77],[12],[1,2,3,10,11,13,22,23,24],[1,2,3,10,11,13,22,23,24],[92],[12],[12]] [(.close [7017,7018,8006,8007,8014,10001,15008])])
def sD:aJ:=⟨93,mkC yA.1,[.tmp 12],.false,.false⟩
def Bf:=cv (a:=lp yA.1 0)
def Bm:aQ:=mkC Bf.1
theorem Og:OkF 228 sD:=okq func228
def Nn:=cv (a:=gT f229 [[0],[2]])
def zZ:aJ:=⟨5,mkC Nn.1,[.tmp 2],.false,.false⟩
theorem ZD:OkF 229 zZ:=okq func229
def Ru:=cv (a:=gT f230 [[2,3,4],[4]])
def De:aJ:=⟨16,mkC Ru.1,[.cell 4 (.some 2)],.false,.false⟩
theorem a0s:OkF 230 De:=okq func230
end Go.AI.Fn
