/- Part. -/
import Derived.Test.YtdnkignjanfikaaGreatTb0
set_option linter.unusedVariables false
set_option maxRecDepth 100000
set_option maxHeartbeats 2000000
namespace Go.AI.Fn
open Proofs.Tryz
def pL:=cv (a:=gT f7 [[2,5,6,8,9],[2,5,6,8,9,22],[10],[2,5,6,8,9,11],[2,5,6,8,9,11],[2,5,6,8,9,11,27],[10],[2,5,6,8,9,11],[2,5,6,8,9,11,32],[10],[2,5,6,8,9,11],[2,5,6,8,9,37],[10],[2,5,6,8,9,12,13],[2,5,6,8,9,12,13,14],[2,5,6,8,9,12,13,14,15],[2,5,6,8,9,12,13,14,15,16],[2,5,6,8,9,12,13,14,15,16,17],[2,5,8,9,12,13,14,15,16,17,18,19],[2,5,8,9,14,15,16,17,77],[10],[2,8,9,15,16,17,82],[10],[8,9,16,17,87],[10],[9,17,92],[10],[97],[10],[10]])
def a_w_FnExactVerifyCircuit:aJ:=⟨98,mkC pL.1,[.tmp 10],.false,.false⟩
theorem ze:OkF 7 a_w_FnExactVerifyCircuit:=okq func7
def HV:=cv (a:=gT f33 [[3,4,5],[6]])
def u3:aJ:=⟨56,mkC HV.1,[.tmp 6],.false,.false⟩
theorem Rz:OkF 33 u3:=okq func33
def mR:=cv (a:=gT f34 [[1,3,5],[1,3,5,54],[6],[1,3,5,7],[1,3,5,7,57],[1,3,5,7,89],[6],[1,3,5,7],[1,3,5,8],[1,3,5,8,94],[1,3,5,8,9],[1,3,5,8,9,120],[6],[1,3,5,8,9,10],[1,3,5,8,9,10,123],[1,3,5,8,9,10,139],[6],[1,3,5,8,9,10,11],[1,3,5,8,9,10,11,147],[1,3,5,8,9,10,11,159],[6],[1,3,5,8,9,10,11],[1,3,5,8,9,10],[1,3,5,8],[6]] [(.close [7013]),(.close [12005,13009]),(.close []),(.close [])])
def uS:aJ:=⟨160,mkC mR.1,[.tmp 6],.false,.false⟩
def Ei:=cv (a:=lp mR.1 0)
def E8:aQ:=mkC Ei.1
def EK:=cv (a:=lp mR.1 1)
def DY:aQ:=mkC EK.1
def BV:=cv (a:=lp mR.1 2)
def Ca:aQ:=mkC BV.1
def BE:=cv (a:=lp mR.1 3)
def Bn:aQ:=mkC BE.1
theorem PT:OkF 34 uS:=okq func34
def AV:=cv (a:=gT f36 [[1],[1,9],[2],[1,11,12,13],[1,11,12,13,14],[1,3,4,11,12,13],[1,11,12,13,21],[2],[1,11,12,13],[2]] [(.close [6003,7002])])
def uf:aJ:=⟨26,mkC AV.1,[.tmp 2],.false,.false⟩
def Ej:=cv (a:=lp AV.1 0)
def Ek:aQ:=mkC Ej.1
theorem SP:OkF 36 uf:=okq func36
def HN:=cv (a:=gT f46 [[1,2],[1],[1,10],[4],[4]])
def ua:aJ:=⟨12,mkC HN.1,[.tmp 4],.false,.false⟩
theorem S5:OkF 46 ua:=okq func46
def NM:=cv (a:=gT f47 [[1,2],[1,2],[1,2,11],[4],[1,2],[1,2,17],[4],[1,2],[1,2,23],[4],[1],[1,29],[4],[4]])
def zY:aJ:=⟨31,mkC NM.1,[.tmp 4],.false,.false⟩
theorem WX:OkF 47 zY:=okq func47
def Ky:=cv (a:=gT f48 [[1,2],[1,2],[1,2,10],[4],[1],[1,17],[4],[4]])
def xn:aJ:=⟨19,mkC Ky.1,[.tmp 4],.false,.false⟩
theorem TS:OkF 48 xn:=okq func48
def zo:=cv (a:=gT f49 [[2,5,6,8,9],[2,5,6,8,9,14],[10,11],[2,5,6,8,9,17],[10,11],[10,11]])
def nv:aJ:=⟨27,mkC zo.1,[.tmp 10,.tmp 11],.false,.false⟩
theorem JK:OkF 49 nv:=okq func49
def IZ:=cv (a:=gT f50 [[1,2],[1,2,3],[2,3],[2]])
def u2:aJ:=⟨9,mkC IZ.1,[.cell 2 (.some 1)],.false,.false⟩
theorem Qm:OkF 50 u2:=okq func50
def IU:=cv (a:=gT f51 [[1,2],[1,2,3],[1,2,3],[1,2,3],[2,3],[2]])
def uE:aJ:=⟨14,mkC IU.1,[.cell 2 (.some 3)],.false,.false⟩
theorem Rh:OkF 51 uE:=okq func51
def JR:=cv (a:=gT f52 [[0],[0,3],[0,3,4],[0,3,4,11],[0,3,4],[0,3,4],[2]] [(.close [])])
def Ct:aJ:=⟨22,mkC JR.1,[.tmp 2],.false,.false⟩
def Kg:=cv (a:=lp JR.1 0)
def Ln:aQ:=mkC Kg.1
theorem a0v:OkF 52 Ct:=okq func52
def N7:=cv (a:=gT f53 [[1,2],[1,2,3],[1,2,3],[1,2,3],[1,2,3],[1,2,3],[1,2,3],[1,2,3],[1,2,3],[2,3],[2]])
def zN:aJ:=⟨36,mkC N7.1,[.cell 2 (.some 17)],.false,.false⟩
theorem YG:OkF 53 zN:=okq func53
def K7:=cv (a:=gT f54 [[1,2],[1,2,3],[1,2,3],[1,2,3],[1,2,3],[2,3],[2]])
def xk:aJ:=⟨18,mkC K7.1,[.cell 2 (.some 4)],.false,.false⟩
theorem Um:OkF 54 xk:=okq func54
def zu:=cv (a:=gT f55 [[2,5,6,8,9],[2,5,6,8,9,12],[10,11],[2,5,6,8,9,16],[10,11],[10,11]])
def n8:aJ:=⟨29,mkC zu.1,[.tmp 10,.tmp 11],.false,.false⟩
theorem Jq:OkF 55 n8:=okq func55
def It:=cv (a:=gT f56 [[2,3],[10],[4],[4]])
def uL:aJ:=⟨11,mkC It.1,[.tmp 4],.false,.false⟩
theorem Ry:OkF 56 uL:=okq func56
def Jv:=cv (a:=gT f57 [[0,1],[0,1,10],[4],[0,1,5],[0,1,5,14],[0,1,5,25],[4],[0,1,5],[4]] [(.close [])])
def Dg:aJ:=⟨26,mkC Jv.1,[.tmp 4],.false,.false⟩
def KN:=cv (a:=lp Jv.1 0)
def Lb:aQ:=mkC KN.1
theorem a30:OkF 57 Dg:=okq func57
def Nq:=cv (a:=gT f58 [[2,3],[2,3,9],[4],[2,3,15],[4],[2,3,21],[4],[2,3,27],[4],[2,3,33],[4],[2,3,39],[4],[2,3,45],[4],[51],[4],[4]])
def A1:aJ:=⟨52,mkC Nq.1,[.tmp 4],.false,.false⟩
theorem ZF:OkF 58 A1:=okq func58
def LC:=cv (a:=gT f59 [[2,3],[2,3,10],[4],[2,3,15],[4],[2,3,20],[4],[25],[4],[4]])
def wS:aJ:=⟨26,mkC LC.1,[.tmp 4],.false,.false⟩
theorem TZ:OkF 59 wS:=okq func59
def Ro:=cv (a:=gT f62 [[2,5,6,8,9],[2,5,6,8,9,12],[2,5,6,8,9,12,19],[10,11],[10,11]])
def DO:aJ:=⟨29,mkC Ro.1,[.tmp 10,.tmp 11],.false,.false⟩
theorem a0q:OkF 62 DO:=okq func62
def Nk:=cv (a:=gT f63 [[3,4,5],[6]])
def Aq:aJ:=⟨61,mkC Nk.1,[.tmp 6],.false,.false⟩
theorem Zm:OkF 63 Aq:=okq func63
def b5z:=cv (a:=gT f68 [[0,1,2],[6]])
def Xa:aJ:=⟨15,mkC b5z.1,[.tmp 6],.false,.false⟩
theorem c0o:OkF 68 Xa:=okq func68
def Ip:=cv (a:=gT f71 [[1,2],[4]])
def uO:aJ:=⟨9,mkC Ip.1,[.tmp 4],.false,.false⟩
theorem Sd:OkF 71 uO:=okq func71
def W0:=cv (a:=gT f72 [[1],[2]])
def H9:aJ:=⟨11,mkC W0.1,[.tmp 2],.false,.false⟩
theorem a4V:OkF 72 H9:=okq func72
def j1:aQ:=(.seq (qS 1000 [qg 2 (.mv (.c (.slice .none 0 0)))] [0]) (.seq (.seq (qS 2000 [qm 3 0,qg 4 (.isNil .false (.t 3))] [0,4]) (.cond (.t 4) (.seq (qS 3000 [qg 2 (.mv (.c (.slice .none 0 0)))] [2]) .ret) .skip)) (.seq (qS 4000 [qg 5 (.buildSlice 2 z0 0 []),qm 6 0,qg 7 (.append 2 16 z0 (.t 5) (.t 6)),qm 2 7] [2]) .ret)))
def bF:aJ:=⟨8,j1,[.tmp 2],.true,.false⟩
theorem w6:OkF 73 bF:=okq func73
def HR:=cv (a:=gT f77 [[1],[2]])
def ul:aJ:=⟨16,mkC HR.1,[.tmp 2],.false,.false⟩
theorem Qx:OkF 77 ul:=okq func77
def Lk:=cv (a:=gT f78 [[1],[2]])
def xq:aJ:=⟨27,mkC Lk.1,[.tmp 2],.false,.false⟩
theorem UX:OkF 78 xq:=okq func78
def Ea:=cv (a:=gT f79 [[1],[2]])
def qy:aJ:=⟨9,mkC Ea.1,[.tmp 2],.false,.false⟩
theorem M2:OkF 79 qy:=okq func79
def i9:=cv (a:=gT f81 [[1,2],[1,2,3],[1,2,3,4],[1,2,3,4,29],[1,2,3,4],[1,2,3,5,6,7],[1,2,3,5,6,7,38,39,40],[1,2,3,5,6,7,38,39,40,41],[1,2,3,5,6,7,9,38,39,40],[1,2,3,5,6,7,38,39,40,46],[1,2,3,5,6,7,38,39,40],[1,2,3,5,6,7,38,39,40],[1,2,3,5,6,7,38,39,40],[1,2,3,5,10],[2,3,5,10,66,67,68],[2,3,5,10,66,67,68,69],[2,3,5,10,11,12,66,67,68],[2,3,5,10,66,67,68],[2,3,5,10,66,67,68],[2,3,5,10,66,67,68,69,89],[2,3,5,10,66,67,68,69],[2,3],[2]] [(.close [4001]),(.close [9002,11002,11003,12002,12003]),(.close [17003,18007]),(.close [])])
def mg:aJ:=⟨113,mkC i9.1,[.cell 2 (.some 6)],.false,.false⟩
def vD:=cv (a:=lp i9.1 0)
def vd:aQ:=mkC vD.1
def vl:=cv (a:=lp i9.1 1)
def vF:aQ:=mkC vl.1
def sR:=cv (a:=lp i9.1 2)
def sQ:aQ:=mkC sR.1
def sK:=cv (a:=lp i9.1 3)
def sN:aQ:=mkC sK.1
theorem Hq:OkF 81 mg:=okq func81
def A3:=cv (a:=gT f83 [[1,2,3],[1,2,3,7],[1,2,3,7],[2,3,7],[7],[6]])
def na:aJ:=⟨25,mkC A3.1,[.tmp 6],.false,.false⟩
theorem JW:OkF 83 na:=okq func83
def Cy:=cv (a:=gT f86 [[1],[1,23],[2],[1,25,26],[1,25,26,27],[1,4,25,26],[1,25,26,37],[2],[1,25,26],[2]] [(.close [7007])])
def wZ:aJ:=⟨39,mkC Cy.1,[.tmp 2],.false,.false⟩
def Su:=cv (a:=lp Cy.1 0)
def b56:aQ:=mkC Su.1
theorem UR:OkF 86 wZ:=okq func86
def HH:=cv (a:=gT f88 [[2,4,5,7],[2,4,5,7,9],[8],[2,4,7,13],[8],[7,32],[8],[38],[8],[8]])
def u9:aJ:=⟨42,mkC HH.1,[.tmp 8],.false,.false⟩
theorem S9:OkF 88 u9:=okq func88
def Lj:=cv (a:=gT f90 [[2,5,6,8,9],[2,5,6,8,9,18],[10,11],[2,5,6,8,12],[13],[10,11]])
def xg:aJ:=⟨29,mkC Lj.1,[.tmp 10,.tmp 11],.false,.false⟩
theorem UA:OkF 90 xg:=okq func90
def ZD:=cv (a:=gT f101 [[0,1,4],[0,1,4,5],[1,4,5,9,10,11],[1,4,5,9,10,11,12],[1,4,5,6,7,9,10,11],[1,4,5,9,10,11],[1,4,5,9,10,11],[4]] [(.close [5003,6006,6007])])
def Pe:aJ:=⟨26,mkC ZD.1,[.cell 4 (.some 2)],.false,.false⟩
def Wa:=cv (a:=lp ZD.1 0)
def Vz:aQ:=mkC Wa.1
theorem b4u:OkF 101 Pe:=okq func101
def Al:=cv (a:=gT f102 [[0],[0,3],[3,12,13,14],[3,12,13,14,15],[3,5,12,13,14],[3,5,6,7,12,13,14],[5,6,7,12,13,14,20,21,22],[5,6,7,12,13,14,20,21,22,23],[5,6,7,9,12,13,14,20,21,22],[5,6,7,12,13,14,20,21,22],[5,6,7,12,13,14,20,21,22],[3,12,13,14],[3,12,13,14],[2]] [(.close [5002,6000,6001,9002,10002,10004,10005,10006,10007,10011,10012,10013,12002,2001]),(.close [9002,10002,10004,10005,10006,10007,10011,10012,10013])])
def zP:aJ:=⟨46,mkC Al.1,[.tmp 2],.false,.false⟩
def Ik:=cv (a:=lp Al.1 0)
def Ir:aQ:=mkC Ik.1
def Il:=cv (a:=lp Al.1 1)
def HL:aQ:=mkC Il.1
theorem Y6:OkF 102 zP:=okq func102
def If:=cv (a:=gT f105 [[1],[2]])
def tU:aJ:=⟨16,mkC If.1,[.tmp 2],.false,.false⟩
theorem R5:OkF 105 tU:=okq func105
def Ll:=cv (a:=gT f106 [[1],[2]])
def wJ:aJ:=⟨28,mkC Ll.1,[.tmp 2],.false,.false⟩
theorem UL:OkF 106 wJ:=okq func106
def KK:=cv (a:=gT f108 [[1,2],[4]])
def xr:aJ:=⟨17,mkC KK.1,[.tmp 4],.false,.false⟩
theorem UF:OkF 108 xr:=okq func108
def zj:=cv (a:=gT f112 [[1,2],[1,2],[2]])
def nw:aJ:=⟨8,mkC zj.1,[.cell 2 (.some 4)],.false,.false⟩
theorem Jh:OkF 112 nw:=okq func112
def tL:=cv (a:=gT f113 [[1,2,6,9,10,11],[1,2,6,9,10,11,13],[1,2,6,10,11,13,14,15,16],[1,2,6,10,11,13,14,15,16,34],[12],[1,6,10,11,13,14,38],[12],[1,6,10,11,13,14],[1,6,10,11,13,14,60],[12],[1,6,10,11,13,14],[6,10,11,14,17,18],[11,14,17,18,82,83,84],[11,14,17,18,82,83,84,85],[11,14,17,18,19,20,82,83,84],[11,14,17,18,21,82,83,84],[11,14,17,18,21,82,83,84,101],[12],[11,14,17,18,82,83,84],[12]] [(.close [16010])])
def oC:aJ:=⟨104,mkC tL.1,[.tmp 12],.false,.false⟩
def wC:=cv (a:=lp tL.1 0)
def wD:aQ:=mkC wC.1
theorem KJ:OkF 113 oC:=okq func113
def Vs:=cv (a:=gT f114 [[1],[2]])
def GQ:aJ:=⟨11,mkC Vs.1,[.tmp 2],.false,.false⟩
theorem a3O:OkF 114 GQ:=okq func114
def W3:=cv (a:=gT f115 [[0,1,2],[6]])
def Hl:aJ:=⟨15,mkC W3.1,[.tmp 6],.false,.false⟩
theorem a6d:OkF 115 Hl:=okq func115
def xe:=cv (a:=gT f116 [[0,1,2,10,11,12,13,14],[1,2,10,11,12,13,14,16],[1,2,10,11,12,13,14,16,17],[1,2,11,12,13,14,16,17,18],[1,2,11,12,13,14,16,17,18,19],[1,2,11,12,13,14,16,17,18,19,36],[1,2,11,12,13,14,16,17,18,19,20],[1,2,11,12,13,14,16,17,18,19,20,52],[14,15],[1,2,11,12,13,14,16,17,18,19,20],[1,2,11,12,13,14,16,17,18,19,20,21,22],[1,2,11,12,13,14,16,17,18,19,20,22],[1,2,11,12,13,14,16,17,18,19,22],[1,2,11,12,13,14,16,17,18,19],[1,2,11,12,13,14,16,17,18,19,73],[1,2,11,12,13,14,16,17,18,19],[1,2,11,12,13,14,16,17,18,19],[1,11,12,13,14,16,17,88],[14,15],[1,11,12,13,14,16,17],[1,11,12,13,14,16,17,101],[14,15],[1,11,12,13,14,16,17],[1,11,12,13,14,16,17,23],[1,12,13,14,16,17,23,24],[1,12,13,14,16,17,23,24,25],[1,12,13,14,16,17,23,24,25,127],[1,12,13,14,16,17,23,24,25,26],[1,12,13,14,16,17,23,24,25,26,146],[14,15],[1,12,13,14,16,17,23,24,25],[14,15]] [(.close [9006,11002,12001,12005,12006,14002,15002,15003,17006]),(.close [29014])])
def wM:aJ:=⟨150,mkC xe.1,[.cell 14 (.some 4),.tmp 15],.false,.false⟩
def GN:=cv (a:=lp xe.1 0)
def Gr:aQ:=mkC GN.1
def Ez:=cv (a:=lp xe.1 1)
def E7:aQ:=mkC Ez.1
theorem Tq:OkF 116 wM:=okq func116
def IY:=cv (a:=gT f117 [[0,1,5],[6]])
def uH:aJ:=⟨17,mkC IY.1,[.tmp 6],.false,.false⟩
theorem Sz:OkF 117 uH:=okq func117
def Gj:=cv (a:=gT f118 [[1,2],[4]])
def sg:aJ:=⟨9,mkC Gj.1,[.tmp 4],.false,.false⟩
theorem Oj:OkF 118 sg:=okq func118
def Q1:=cv (a:=gT f119 [[0],[2]])
def Dw:aJ:=⟨6,mkC Q1.1,[.tmp 2],.false,.false⟩
theorem a2z:OkF 119 Dw:=okq func119
def EH:=cv (a:=gT f120 [[1,2],[4]])
def pS:aJ:=⟨9,mkC EH.1,[.tmp 4],.false,.false⟩
theorem M9:OkF 120 pS:=okq func120
def E4:=cv (a:=gT f121 [[1,2,3],[4]])
def q9:aJ:=⟨9,mkC E4.1,[.tmp 4],.false,.false⟩
theorem Mn:OkF 121 q9:=okq func121
def G5:=cv (a:=gT f122 [[1,3,5],[1,3,5,27],[6],[1,5,29,30,31],[1,5,29,30,31,32],[1,5,7,8,29,30,31],[1,5,29,30,31,50],[6],[1,5,29,30,31],[6]] [(.close [7012])])
def Ab:aJ:=⟨52,mkC G5.1,[.tmp 6],.false,.false⟩
def HX:=cv (a:=lp G5.1 0)
def J2:aQ:=mkC HX.1
theorem Wq:OkF 122 Ab:=okq func122
def F4:=cv (a:=gT f123 [[0],[0,3],[0,3,7],[0,3,15],[2],[0,3],[2]] [(.close [5004])])
def A4:aJ:=⟨16,mkC F4.1,[.tmp 2],.false,.false⟩
def Iz:=cv (a:=lp F4.1 0)
def HZ:aQ:=mkC Iz.1
theorem WJ:OkF 123 A4:=okq func123
def QW:=cv (a:=gT f127 [[1,2],[1,2,5,6,7],[1,2,5,6,7,18],[1,2,5,6,7,18,19],[2,5,6,7],[1,2,5,6,7,18,24],[1,2,5,6,7,18,24],[1,2,5,6,7,18,24],[1,2,5,6,7,18,24],[2,5,6,7],[1,2,5,6,7,39],[2,5,6,7],[4]])
def Dx:aJ:=⟨58,mkC QW.1,[.tmp 4],.false,.false⟩
theorem a3j:OkF 127 Dx:=okq func127
def p5:=cv (a:=gT f128 [[1,2],[1,2,5],[1,5,9,10,11],[1,5,9,10,11,12],[1,5,7,9,10,11],[1,5,9,10,11,18],[1,5,9,10,11],[1,5,9,10,11],[4]] [(.close [5002])])
def kU:aJ:=⟨23,mkC p5.1,[.tmp 4],.false,.false⟩
def sP:=cv (a:=lp p5.1 0)
def sS:aQ:=mkC sP.1
theorem GB:OkF 128 kU:=okq func128
def N2:=cv (a:=gT f131 [[1,2],[4]])
def zz:aJ:=⟨9,mkC N2.1,[.tmp 4],.false,.false⟩
theorem ZO:OkF 131 zz:=okq func131
def Nw:=cv (a:=gT f132 [[0],[2]])
def zl:aJ:=⟨5,mkC Nw.1,[.tmp 2],.false,.false⟩
theorem Yw:OkF 132 zl:=okq func132
def Em:=cv (a:=gT f133 [[1],[2]])
def qd:aJ:=⟨7,mkC Em.1,[.tmp 2],.false,.false⟩
theorem MI:OkF 133 qd:=okq func133
def uh:=cv (a:=gT f137 [[1,2],[1,2,3,4],[1,2,3,5],[1,2,3,5,6],[1,2,3,5,6,7],[1,2,3,5,6,7,26],[1,2,3,5,6,7,8],[1,2,3,5,6,7,8,35],[1,2,3,5,6,7,8,35,36],[1,2,3,5,6,7,8,35,36],[1,2,3,5,6,7,8,35,39],[1,2,3,5,6,7,8],[1,2,3,5,6,7],[1,2,3,5,6,7,8,35,61],[1,2,3,5,6,7,8,35,61],[1,2,3,5,6,7,8],[1,2,3,5,6,7,8,9],[1,2,3,5,6,7,8,9,76],[1,2,3,5,6,7,8,9],[1,2,3,5,6,7],[1,2,3,5,6,7],[1,2,3,5,6,7,8,35,93],[1,2,3,5,6,7,8,97],[1,2,3,5,6,7],[1,2,3,5,6,7],[1,2,3,5,6,7,8,35,110],[1,2,3,5,6,7,8],[1,2,3,5,6,7,8],[1,2,3,5,6,7,8],[1,2,3,5,6,7,8],[1,2,3,5,6,7],[1,2,3,5,6,7],[1,2,3,5,6,7,8,153],[1,2,3,5,6,7,8],[1,2,3,5,6,7,8],[1,2,3,5,6,7,8],[1,2,3,5,6,7,8],[1,2,3,5,6,7],[1,2,3,5,6,7],[1,2,3,5,6,7],[1,2,3,5,6,7],[1,2,3,5,6,7],[2,5,6],[2,5,6,218],[2,5,6],[2]] [(.close [8005,13008,14008,17008,21009,22003,25005,26003,28008,29003,30007,32008,33003,35008,36008,37007,39008,40003,41007,3003,3004,3005]),(.close [])])
def ur:aJ:=⟨224,mkC uh.1,[.cell 2 (.some 6)],.false,.false⟩
def Et:=cv (a:=lp uh.1 0)
def DX:aQ:=mkC Et.1
def BG:=cv (a:=lp uh.1 1)
def BL:aQ:=mkC BG.1
theorem SH:OkF 137 ur:=okq func137
def AC:=cv (a:=gT f139 [[1],[1,8],[2],[1,3],[1,3,13],[1,3,23],[2],[1,3],[2]] [(.close [7006])])
def uw:aJ:=⟨27,mkC AC.1,[.tmp 2],.false,.false⟩
def EG:=cv (a:=lp AC.1 0)
def Eg:aQ:=mkC EG.1
theorem SM:OkF 139 uw:=okq func139
def Af:=cv (a:=gT f140 [[3,4,5],[3,4,5,51],[6],[3,4,5,7],[3,4,5,7,56],[3,4,5,7,74],[6],[3,4,5,7],[3,4,5,8],[3,4,5,8,79],[3,4,5,8,97],[6],[3,4,5,8],[6]] [(.close [7013]),(.close [12013])])
def Ag:aJ:=⟨105,mkC Af.1,[.tmp 6],.false,.false⟩
def IL:=cv (a:=lp Af.1 0)
def IR:aQ:=mkC IL.1
def Io:=cv (a:=lp Af.1 1)
def ID:aQ:=mkC Io.1
theorem YC:OkF 140 Ag:=okq func140
def Q8:=cv (a:=gT f142 [[2,4,5,7],[2,4,5,7,9],[8],[2,4,7,13],[8],[7,32],[8],[38],[8],[8]])
def Cu:aJ:=⟨41,mkC Q8.1,[.tmp 8],.false,.false⟩
theorem a2n:OkF 142 Cu:=okq func142
def HP:=cv (a:=gT f144 [[2,5,6,8,9],[2,5,6,8,11],[2,5,6,8,11,12],[2,5,6,8,11,12,13,14,15],[2,5,6,8,11,12,13,14,15,51],[10],[2,5,6,8,11,13,14,65],[10],[2,5,6,8,11,13,14],[2,5,6,8,11,13,14,16],[2,5,6,8,11,13,14,16,17],[2,5,6,8,11,13,14,15,16,18],[2,5,6,8,11,13,14,15,16,18,113],[10],[2,5,6,8,11,13,14,16,18,19],[2,5,6,8,11,13,14,16,18,19,20],[5,6,8,11,13,14,16,18,19,21],[5,6,8,11,14,19,21,22],[5,6,8,11,19,148],[10],[5,6,8,11,19],[15],[10]])
def uJ:aJ:=⟨171,mkC HP.1,[.tmp 10],.false,.false⟩
theorem RP:OkF 144 uJ:=okq func144
def No:=cv (a:=gT f145 [[0,1],[1],[1,10],[4],[4]])
def Ap:aJ:=⟨12,mkC No.1,[.tmp 4],.false,.false⟩
theorem YR:OkF 145 Ap:=okq func145
def FT:=cv (a:=gT f146 [[0,1],[0,1],[0,1,11],[4],[0,1,5],[0,1,5,15],[0,1,5],[0,1,5,25],[4],[0,1,5],[4]] [(.close [8005])])
def zm:aJ:=⟨27,mkC FT.1,[.tmp 4],.false,.false⟩
def IQ:=cv (a:=lp FT.1 0)
def Ix:aQ:=mkC IQ.1
theorem XT:OkF 146 zm:=okq func146
def In:=cv (a:=gT f147 [[1,2],[1,2],[1,2,10],[4],[1,2],[1,2,16],[4],[1],[1,22],[4],[4]])
def uo:aJ:=⟨24,mkC In.1,[.tmp 4],.false,.false⟩
theorem Sw:OkF 147 uo:=okq func147
def PV:=cv (a:=gT f148 [[0,1],[1],[1,10],[4],[4]])
def DH:aJ:=⟨12,mkC PV.1,[.tmp 4],.false,.false⟩
theorem a3a:OkF 148 DH:=okq func148
def PK:=cv (a:=gT f149 [[2,5,6,8,9],[2,5,6,8,9,16],[10,11],[2,5,6,8,9,12],[2,5,6,8,9,12,23],[10,11],[2,5,6,8,9,29],[10,11],[13],[10,11]])
def CF:aJ:=⟨39,mkC PK.1,[.tmp 10,.tmp 11],.false,.false⟩
theorem a0e:OkF 149 CF:=okq func149
def Fq:=cv (a:=gT f150 [[0],[0,3],[0,3,4],[0,3,4,11],[0,3,4],[0,3,4],[2]] [(.close [6006])])
def Aj:aJ:=⟨23,mkC Fq.1,[.tmp 2],.false,.false⟩
def I6:=cv (a:=lp Fq.1 0)
def IG:aQ:=mkC I6.1
theorem YP:OkF 150 Aj:=okq func150
def Fc:=cv (a:=gT f151 [[0],[0,3],[0,3,4],[0,3,4,11],[0,3,4],[0,3,4],[2]] [(.close [6006])])
def zJ:aJ:=⟨23,mkC Fc.1,[.tmp 2],.false,.false⟩
def HT:=cv (a:=lp Fc.1 0)
def Ia:aQ:=mkC HT.1
theorem ZT:OkF 151 zJ:=okq func151
def VM:=cv (a:=gT f152 [[1,2],[1,2,3],[1,2,3],[2,3],[2]])
def GX:aJ:=⟨11,mkC VM.1,[.cell 2 (.some 2)],.false,.false⟩
theorem a6u:OkF 152 GX:=okq func152
def Iy:=cv (a:=gT f153 [[1,2],[1,2,3],[1,2,3],[1,2,3],[1,2,3],[1,2,3],[2,3],[2]])
def ug:aJ:=⟨24,mkC Iy.1,[.cell 2 (.some 6)],.false,.false⟩
theorem Rk:OkF 153 ug:=okq func153
def JB:=cv (a:=gT f154 [[0],[0,3],[0,3,4],[0,3,4,11],[0,3,4],[0,3,4],[2]] [(.close [6006])])
def De:aJ:=⟨23,mkC JB.1,[.tmp 2],.false,.false⟩
def Lp:=cv (a:=lp JB.1 0)
def Ko:aQ:=mkC Lp.1
theorem a1b:OkF 154 De:=okq func154
def Gi:=cv (a:=gT f155 [[0,1],[0,1,10],[4],[0,1,5],[0,1,5,14],[0,1,5,26],[4],[0,1,5],[4]] [(.close [7008])])
def A5:aJ:=⟨27,mkC Gi.1,[.tmp 4],.false,.false⟩
def HO:=cv (a:=lp Gi.1 0)
def HU:aQ:=mkC HO.1
theorem Y8:OkF 155 A5:=okq func155
def FA:=cv (a:=gT f156 [[0,1],[0,1,10],[4],[0,1,5],[0,1,5,14],[0,1,5,26],[4],[0,1,5],[4]] [(.close [7008])])
def zw:aJ:=⟨27,mkC FA.1,[.tmp 4],.false,.false⟩
def Iu:=cv (a:=lp FA.1 0)
def HW:aQ:=mkC Iu.1
theorem Xj:OkF 156 zw:=okq func156
def VD:=cv (a:=gT f157 [[2,3],[2,3,9],[4],[14],[4],[4]])
def GZ:aJ:=⟨15,mkC VD.1,[.tmp 4],.false,.false⟩
theorem a6q:OkF 157 GZ:=okq func157
def IT:=cv (a:=gT f158 [[2,3],[2,3,10],[4],[2,3,16],[4],[2,3,22],[4],[2,3,27],[4],[33],[4],[4]])
def uA:aJ:=⟨34,mkC IT.1,[.tmp 4],.false,.false⟩
theorem RN:OkF 158 uA:=okq func158
def JO:=cv (a:=gT f159 [[0,1],[0,1,10],[4],[0,1,5],[0,1,5,14],[0,1,5,26],[4],[0,1,5],[4]] [(.close [7008])])
def CB:aJ:=⟨27,mkC JO.1,[.tmp 4],.false,.false⟩
def KA:=cv (a:=lp JO.1 0)
def LI:aQ:=mkC KA.1
theorem a3w:OkF 159 CB:=okq func159
def a7p:=cv (a:=gT f164 [[0,1],[4]])
def Po:aJ:=⟨9,mkC a7p.1,[.tmp 4],.false,.false⟩
theorem b4m:OkF 164 Po:=okq func164
def jv:=cv (a:=gT f166 [[0,1],[4]])
def dU:aJ:=⟨9,mkC jv.1,[.tmp 4],.false,.false⟩
theorem pA:OkF 166 dU:=okq func166
def EN:=cv (a:=gT f167 [[1,2],[3]])
def qh:aJ:=⟨8,mkC EN.1,[.tmp 3],.false,.false⟩
theorem ME:OkF 167 qh:=okq func167
def Qy:=cv (a:=gT f168 [[0],[2]])
def Da:aJ:=⟨7,mkC Qy.1,[.tmp 2],.false,.false⟩
theorem a3t:OkF 168 Da:=okq func168
def a7k:=cv (a:=gT f170 [[0,1],[4]])
def Pk:aJ:=⟨10,mkC a7k.1,[.tmp 4],.false,.false⟩
theorem b1X:OkF 170 Pk:=okq func170
def a7M:=cv (a:=gT f171 [[0,1],[4]])
def Pr:aJ:=⟨9,mkC a7M.1,[.tmp 4],.false,.false⟩
theorem b3d:OkF 171 Pr:=okq func171
def F9:=cv (a:=gT f172 [[0,2,5,7],[0,2,5,7,8],[0,2,5,7,8,11],[0,2,5,7,8,11,12],[],[0,2,5,7,8,11,21],[],[0,2,5,7,8,11,35],[],[0,2,5,7,8,11,49],[],[0,2,5,7,8,11,63],[0,2,5,8],[],[0,2,5,7,8,79],[0,2,5,8],[]])
def rU:aJ:=⟨100,mkC F9.1,[],.false,.false⟩
theorem P0:OkF 172 rU:=okq func172
def Co:=cv (a:=gT f175 [[0],[0,3],[3,7,8,9],[3,7,8,9,10],[3,5,7,8,9],[3,7,8,9],[3,7,8,9],[2]] [(.close [5002,6003,6006])])
def xy:aJ:=⟨22,mkC Co.1,[.tmp 2],.false,.false⟩
def Fy:=cv (a:=lp Co.1 0)
def GK:aQ:=mkC Fy.1
theorem TY:OkF 175 xy:=okq func175
def wA:=cv (a:=gT f177 [[1,2],[2]])
def kV:aJ:=⟨10,mkC wA.1,[.cell 2 (.some 3)],.false,.false⟩
theorem FU:OkF 177 kV:=okq func177
def D5:=cv (a:=gT f178 [[0,1,2],[0,1,2,9,10,11],[0,1,2,9,10,11,12],[0,1,2,7,8,9,10,11],[0,1,2,9,10,11,49],[6],[0,1,2,9,10,11],[6]] [(.close [4003,5004,5011,5017,5030])])
def wP:aJ:=⟨54,mkC D5.1,[.tmp 6],.false,.false⟩
def FL:=cv (a:=lp D5.1 0)
def EY:aQ:=mkC FL.1
theorem TU:OkF 178 wP:=okq func178
def zq:=cv (a:=gT f184 [[0,3,6,7,9],[0,3,6,7,9],[0,3,6,7,9],[0,3,6,7,9,11],[0,3,6,7,9,11,12,13,14],[0,3,6,7,9,11,12,13,14,44],[10],[0,3,6,7,9,12,13,48],[10],[0,3,6,7,9,12,13],[0,3,6,7,9,12,13,15],[0,3,6,7,9,12,13,14,15,16],[0,3,6,7,9,12,13,14,15,16,91],[10],[0,3,6,7,9,12,13,15,16,17,18],[0,3,6,7,9,13,17,18,19],[0,7,9,17,124],[10],[0,7,9,17],[10]])
def ni:aJ:=⟨140,mkC zq.1,[.tmp 10],.false,.false⟩
theorem JJ:OkF 184 ni:=okq func184
def CN:=cv (a:=gT f187 [[1,2],[1,2,5],[1,2,5,6],[1,2,5,6,11],[1,2,5,6],[1,2,5,6],[4]] [(.close [6009])])
def wY:aJ:=⟨26,mkC CN.1,[.tmp 4],.false,.false⟩
def GO:=cv (a:=lp CN.1 0)
def EW:aQ:=mkC GO.1
theorem UY:OkF 187 wY:=okq func187
def Ni:=cv (a:=gT f188 [[0],[0,3],[2],[6],[2],[2]])
def zZ:aJ:=⟨9,mkC Ni.1,[.tmp 2],.false,.false⟩
theorem YV:OkF 188 zZ:=okq func188
def Ie:=cv (a:=gT f191 [[1,2,4],[2,4],[2,4],[4]])
def tW:aJ:=⟨19,mkC Ie.1,[.cell 4 (.some 4)],.false,.false⟩
theorem Ss:OkF 191 tW:=okq func191
def Nd:=cv (a:=gT f192 [[1,2,3],[1,2,3,9],[1,2,3,4],[1,2,3,4],[2,3],[1,2,3,5],[1,2,3,5],[2,3]])
def Ah:aJ:=⟨47,mkC Nd.1,[.cell 2 (.some 4),.cell 3 (.some 2)],.false,.false⟩
theorem Yq:OkF 192 Ah:=okq func192
def IM:=cv (a:=gT f198 [[2,3,4],[4]])
def uD:aJ:=⟨16,mkC IM.1,[.cell 4 (.some 2)],.false,.false⟩
theorem QB:OkF 198 uD:=okq func198
def Kj:=cv (a:=gT f199 [[2,3,4],[4]])
def wQ:aJ:=⟨16,mkC Kj.1,[.cell 4 (.some 2)],.false,.false⟩
theorem TO:OkF 199 wQ:=okq func199
def IK:=cv (a:=gT f200 [[2,3,4],[4]])
def uM:aJ:=⟨29,mkC IK.1,[.cell 4 (.some 2)],.false,.false⟩
theorem Tb:OkF 200 uM:=okq func200
def a72:=cv (a:=gT f201 [[0],[0]])
def Pn:aJ:=⟨2,mkC a72.1,[.cell 0 (.some 2)],.false,.false⟩
theorem b3i:OkF 201 Pn:=okq func201
def H5:=cv (a:=gT f204 [[0],[0,3],[0,3,4],[0,3,4,12],[0,3,4,5],[0,3,4,5,6],[0,3,4,5,6,22],[0,3,4,5,6],[0,3,4,5,6],[0,3,4,5,6],[0,3,4],[0,3,4],[2]] [(.close [6003,10010,10011,11013,2001]),(.close [10010,10011,11013])])
def H7:aJ:=⟨55,mkC H5.1,[.tmp 2],.false,.false⟩
def Oa:=cv (a:=lp H5.1 0)
def Nh:aQ:=mkC Oa.1
def O4:=cv (a:=lp H5.1 1)
def NI:aQ:=mkC O4.1
theorem a5I:OkF 204 H7:=okq func204
def Ns:=cv (a:=gT f207 [[1,2,4],[4]])
def zL:aJ:=⟨10,mkC Ns.1,[.cell 4 (.some 4)],.false,.false⟩
theorem WA:OkF 207 zL:=okq func207
def AK:=cv (a:=gT f213 [[0,1],[0,1,5],[0,5,6],[0,5,6,11],[0,5,6],[0,5,6],[4]] [(.close [6007,6008])])
def uP:aJ:=⟨24,mkC AK.1,[.tmp 4],.false,.false⟩
def EF:=cv (a:=lp AK.1 0)
def DS:aQ:=mkC EF.1
theorem Rf:OkF 213 uP:=okq func213
def AS:=cv (a:=gT f214 [[1,2,3,6],[1,2,6,8,9],[1,2,6,8,9,10],[1,2,6,8,9,10,11],[1,2,6,8,9,10,11,21],[1,2,6,8,9,10,11],[1,2,6,8,9,10,11],[6,7]] [(.close [7008,7009])])
def um:aJ:=⟨36,mkC AS.1,[.cell 6 (.some 4),.tmp 7],.false,.false⟩
def Ep:=cv (a:=lp AS.1 0)
def EE:aQ:=mkC Ep.1
theorem Sa:OkF 214 um:=okq func214
def AU:aQ:=(.seq (.seq (qS 3000 [qm 12 3,qn 13 12,qB 14 .rem 13 136,qB 15 .neq 14 0] [3,15]) (.cond (.t 15) .skip (.exit 0))) (.block 1 (qS 4000 [qm 16 3,qg 17 (.buildSlice 1 [(.int .u8 0)] 1 [(0,(.c (.int .u8 0)))]),qg 18 (.append 1 1 [(.int .u8 0)] (.t 16) (.t 17)),qm 3 18] [3])))
def y4:aQ:=(.seq (.seq (qS 12000 [qm 41 7,qB 42 .lss 41 25] [3,4,5,6,7,42]) (.cond (.t 42) .skip (.exit 4))) (.seq (.block 5 (.drawn 14000 [qm 45 7,qX 46 25 1 4 45,ql 47 46,qm 48 7,qX 49 25 1 6 48,ql 50 49,qb 51 .xor 47 50,qX 52 25 1 4 45,qu 1 52 51] [[],[0],[1,0],[],[3],[4,3],[2,1,0,5,4,3],[0,1,2,3,4,5,6],[7,0,1,2,3,4,5,6]] [3,4,5,6,7])) (qS 13000 [qm 43 7,qB 44 .add 43 1,qm 7 44] [3,4,5,6,7])))
def AQ:aQ:=(.seq (.seq (qS 8000 [qm 28 5,qm 29 3,qn 30 29,qb 31 .lss 28 30] [3,4,5,31]) (.cond (.t 31) .skip (.exit 2))) (.seq (.block 3 (.seq (qS 10000 [qm 34 3,qm 35 5,qm 36 5,qB 37 .add 36 136,qg 38 (.slice 1 (.t 34) (.some (.t 35)) (.some (.t 37)) .none),qg 39 (.toStr (.t 38)),qc 40 321 [39],qg 6 (.alloc (zar .u64 25)),qu 25 6 40] [3,4,5,6]) (.seq (.seq (qS 11000 [qi 7 0] [3,4,5,6,7]) (.block 4 (.loop (pM (.close []) y4)))) (qS 15000 [qL 53 25 4,qc 54 322 [53],qu 25 4 54] [3,4,5])))) (qS 9000 [qm 32 5,qB 33 .add 32 136,qm 5 33] [3,4,5])))
def Np:aQ:=(.seq (qS 1000 [qg 2 (.mv (.c (.string ⟨⟨[]⟩⟩)))] [0]) (.seq (qS 2000 [qm 8 0,qg 9 (.toBytes (.t 8)),qg 10 (.buildSlice 1 [(.int .u8 0)] 1 [(0,(.c (.int .u8 1)))]),qg 11 (.append 1 1 [(.int .u8 0)] (.t 9) (.t 10)),qm 3 11] [3]) (.seq (.block 0 (.loop (pM (.close [4001,4002]) AU))) (.seq (qS 5000 [qm 19 3,qm 20 3,qn 21 20,qB 22 .sub 21 1,qx 23 1 19 22,ql 24 23,qg 25 (.bin .or (.t 24) (.c (.int .u8 128))),qx 26 1 19 22,qu 1 26 25] [3]) (.seq (qS 6000 [qg 27 (.build (zar .u64 25) []),qg 4 (.alloc (zar .u64 25)),qu 25 4 27] [3,4]) (.seq (.seq (qS 7000 [qi 5 0] [3,4,5]) (.block 2 (.loop (pM (.close [10006,10007,15001,2001]) AQ)))) (.seq (qS 16000 [qL 55 25 4,qg 56 (.call 323 [(.t 55),(qI 32)]),qm 2 56] [2]) .ret)))))))
def Au:aJ:=⟨57,Np,[.tmp 2],.false,.false⟩
theorem Wt:OkF 218 Au:=okq func218
def ki:=cv (a:=gT f219 [[0,1,3,4,7,11],[0,1,3,4,7,11,13],[0,1,4,7,11,13,18,19,20],[0,1,4,7,11,13,18,19,20,21],[0,1,4,7,11,13,14,15,18,19,20],[0,1,4,7,11,13,14,15,18,19,20,25],[10,11,12],[0,1,4,7,11,13,14,15,18,19,20,33],[10,11,12],[0,1,4,7,11,13,14,15,18,19,20],[0,1,4,7,11,13,14,15,16,18,19,20],[0,1,4,7,11,13,14,18,19,20],[0,1,4,7,11,13,18,19,20],[0,1,4,7,11,13,18,19,20],[10,11,12]] [(.close [6003,8006,10002,11001,11002,12002,12005,12006,13002])])
def fY:aJ:=⟨62,mkC ki.1,[.tmp 10,.cell 11 (.some 2),.tmp 12],.false,.false⟩
def mh:=cv (a:=lp ki.1 0)
def j6:aQ:=mkC mh.1
theorem ES:OkF 219 fY:=okq func219
def yH:=cv (a:=gT f220 [[0,2,3,8],[]])
def m1:aJ:=⟨17,mkC yH.1,[],.false,.false⟩
theorem Hz:OkF 220 m1:=okq func220
def Am:=cv (a:=gT f221 [[]])
def nf:aJ:=⟨23,mkC Am.1,[],.false,.false⟩
theorem Jz:OkF 221 nf:=okq func221
def Q4:=cv (a:=gT f222 [[0,1,4],[0,1,4,5],[1,4,5,9,10,11],[1,4,5,9,10,11,12],[1,4,5,6,7,9,10,11],[1,4,5,9,10,11],[1,4,5,9,10,11],[4]] [(.close [5003,6006,6007,6009,6010,6015,6016,6017,6018])])
def K8:aJ:=⟨37,mkC Q4.1,[.cell 4 (.some 2)],.false,.false⟩
def Rl:=cv (a:=lp Q4.1 0)
def Sp:aQ:=mkC Rl.1
theorem b05:OkF 222 K8:=okq func222
def sO:=cv (a:=gT f223 [[]])
def jN:aJ:=⟨8,mkC sO.1,[],.false,.false⟩
theorem Cx:OkF 223 jN:=okq func223
def Es:=cv (a:=gT f224 [[1,2,3],[1,7],[6]] [] [(2,.close [2009])])
def qa:aJ:=⟨25,mkC Es.1,[.tmp 6],.false,.false⟩
theorem MX:OkF 224 qa:=okq func224
def SU:=cv (a:=gT f225 [[0,1],[4]])
def BJ:aJ:=⟨19,mkC SU.1,[.tmp 4],.false,.false⟩
theorem a9r:OkF 225 BJ:=okq func225
def JG:=cv (a:=gT f226 [[0,1],[0,1,5],[1,5,9,10,11],[1,5,9,10,11,12],[1,5,7,9,10,11],[1,5,9,10,11],[1,5,9,10,11],[4]] [(.close [5002,6005,6006])])
def Dn:aJ:=⟨24,mkC JG.1,[.tmp 4],.false,.false⟩
def K9:=cv (a:=lp JG.1 0)
def L0:aQ:=mkC K9.1
theorem a03:OkF 226 Dn:=okq func226
def tG:=cv (a:=gT f227 [[0,1],[0,1,5],[0,5,7,8],[0,5,7,8,9],[0,5,7,8],[0,5,7,8],[4]] [(.close [5002,5003,5004])])
def oJ:aJ:=⟨17,mkC tG.1,[.tmp 4],.false,.false⟩
def yK:=cv (a:=lp tG.1 0)
def yp:aQ:=mkC yK.1
theorem KI:OkF 227 oJ:=okq func227
def yL:=cv (a:=gT f228 [[0,1,2,3,10,11],[0,1,2,3,10,11,13],[1,2,3,10,11,13,22,23,24],[1,2,3,10,11,13,22,23,24,25],[1,2,3,10,11,13,14,15,22,23,24],[1,2,3,10,11,13,14,15,16,22,23,24],[1,2,3,10,11,13,14,15,16,17,18,19,22,23,24],[1,2,3,10,11,13,14,16,17,18,19,22,23,24,64],[12],[1,2,3,10,11,13,14,16,17,18,19,20,22,23,24],[1,2,10,11,13,14,16,17,18,19,20,22,23,24,69],[1,2,10,11,13,14,16,17,18,19,20,22,23,24],[1,2,10,11,13,14,16,17,18,19,22,23,24,77],[12],[1,2,3,10,11,13,22,23,24],[1,2,3,10,11,13,22,23,24],[92],[12],[12]] [(.close [7017,7018,8006,8007,8014,10001,15008])])
def sD:aJ:=⟨93,mkC yL.1,[.tmp 12],.false,.false⟩
def Ck:=cv (a:=lp yL.1 0)
def Cc:aQ:=mkC Ck.1
theorem OL:OkF 228 sD:=okq func228
def Nv:=cv (a:=gT f229 [[0],[2]])
def zy:aJ:=⟨5,mkC Nv.1,[.tmp 2],.false,.false⟩
theorem XR:OkF 229 zy:=okq func229
def PZ:=cv (a:=gT f230 [[2,3,4],[4]])
def Dl:aJ:=⟨16,mkC PZ.1,[.cell 4 (.some 2)],.false,.false⟩
theorem a2T:OkF 230 Dl:=okq func230
end Go.AI.Fn
