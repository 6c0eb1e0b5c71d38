/- Codes. -/
import Derived.Test.YtdnkignjanfikaaGreatTb0
set_option linter.unusedVariables false
set_option maxRecDepth 100000
set_option maxHeartbeats 2000000
namespace Go.AI.Fn
open Proofs.Tryz
def qa:=cv (a:=gT f7 [[2,5,6,8,9],[2,5,6,8,9,22],[10],[2,5,6,8,9,11],[2,5,6,8,9,11],[2,5,6,8,9,11,27],[10],[2,5,6,8,9,11],[2,5,6,8,9,11,32],[10],[2,5,6,8,9,11],[2,5,6,8,9,37],[10],[2,5,6,8,9,12,13],[2,5,6,8,9,12,13,14],[2,5,6,8,9,12,13,14,15],[2,5,6,8,9,12,13,14,15,16],[2,5,6,8,9,12,13,14,15,16,17],[2,5,8,9,12,13,14,15,16,17,18,19],[2,5,8,9,14,15,16,17,77],[10],[2,8,9,15,16,17,82],[10],[8,9,16,17,87],[10],[9,17,92],[10],[97],[10],[10]])
def a_w_FnExactVerifyCircuit:aJ:=⟨98,mkC qa.1,[.tmp 10],.false,.false⟩
theorem zI:OkF 7 a_w_FnExactVerifyCircuit:=okq func7
def Ip:=cv (a:=gT f33 [[3,4,5],[6]])
def uV:aJ:=⟨56,mkC Ip.1,[.tmp 6],.false,.false⟩
theorem QB:OkF 33 uV:=okq func33
def nu:=cv (a:=gT f34 [[1,3,5],[1,3,5,54],[6],[1,3,5,7],[1,3,5,7,57],[1,3,5,7,89],[6],[1,3,5,7],[1,3,5,8],[1,3,5,8,94],[1,3,5,8,9],[1,3,5,8,9,120],[6],[1,3,5,8,9,10],[1,3,5,8,9,10,123],[1,3,5,8,9,10,139],[6],[1,3,5,8,9,10,11],[1,3,5,8,9,10,11,147],[1,3,5,8,9,10,11,159],[6],[1,3,5,8,9,10,11],[1,3,5,8,9,10],[1,3,5,8],[6]] [(.close [7013]),(.close [12005,13009]),(.close []),(.close [])])
def vk:aJ:=⟨160,mkC nu.1,[.tmp 6],.false,.false⟩
def Er:=cv (a:=lp nu.1 0)
def EK:aP:=mkC Er.1
def F0:=cv (a:=lp nu.1 1)
def EG:aP:=mkC F0.1
def BO:=cv (a:=lp nu.1 2)
def CG:aP:=mkC BO.1
def BZ:=cv (a:=lp nu.1 3)
def Cd:aP:=mkC BZ.1
theorem TX:OkF 34 vk:=okq func34
def Bv:=cv (a:=gT f36 [[1],[1,9],[2],[1,11,12,13],[1,11,12,13,14],[1,3,4,11,12,13],[1,11,12,13,21],[2],[1,11,12,13],[2]] [(.close [6003,7002])])
def uB:aJ:=⟨26,mkC Bv.1,[.tmp 2],.false,.false⟩
def Ev:=cv (a:=lp Bv.1 0)
def Fa:aP:=mkC Ev.1
theorem Sa:OkF 36 uB:=okq func36
def J0:=cv (a:=gT f46 [[1,2],[1],[1,10],[4],[4]])
def uA:aJ:=⟨12,mkC J0.1,[.tmp 4],.false,.false⟩
theorem RW:OkF 46 uA:=okq func46
def O3:=cv (a:=gT f47 [[1,2],[1,2],[1,2,11],[4],[1,2],[1,2,17],[4],[1,2],[1,2,23],[4],[1],[1,29],[4],[4]])
def AJ:aJ:=⟨31,mkC O3.1,[.tmp 4],.false,.false⟩
theorem a0B:OkF 47 AJ:=okq func47
def LN:=cv (a:=gT f48 [[1,2],[1,2],[1,2,10],[4],[1],[1,17],[4],[4]])
def xS:aJ:=⟨19,mkC LN.1,[.tmp 4],.false,.false⟩
theorem VP:OkF 48 xS:=okq func48
def Ae:=cv (a:=gT f49 [[2,5,6,8,9],[2,5,6,8,9,14],[10,11],[2,5,6,8,9,17],[10,11],[10,11]])
def nP:aJ:=⟨27,mkC Ae.1,[.tmp 10,.tmp 11],.false,.false⟩
theorem JI:OkF 49 nP:=okq func49
def Jt:=cv (a:=gT f50 [[1,2],[1,2,3],[2,3],[2]])
def uK:aJ:=⟨9,mkC Jt.1,[.cell 2 (.some 1)],.false,.false⟩
theorem Qq:OkF 50 uK:=okq func50
def J7:=cv (a:=gT f51 [[1,2],[1,2,3],[1,2,3],[1,2,3],[2,3],[2]])
def ve:aJ:=⟨14,mkC J7.1,[.cell 2 (.some 3)],.false,.false⟩
theorem SK:OkF 51 ve:=okq func51
def JG:=cv (a:=gT f52 [[0],[0,3],[0,3,4],[0,3,4,11],[0,3,4],[0,3,4],[2]] [(.close [])])
def E9:aJ:=⟨22,mkC JG.1,[.tmp 2],.false,.false⟩
def Ln:=cv (a:=lp JG.1 0)
def KH:aP:=mkC Ln.1
theorem a4f:OkF 52 E9:=okq func52
def Ov:=cv (a:=gT f53 [[1,2],[1,2,3],[1,2,3],[1,2,3],[1,2,3],[1,2,3],[1,2,3],[1,2,3],[1,2,3],[2,3],[2]])
def Ax:aJ:=⟨36,mkC Ov.1,[.cell 2 (.some 17)],.false,.false⟩
theorem YX:OkF 53 Ax:=okq func53
def Ly:=cv (a:=gT f54 [[1,2],[1,2,3],[1,2,3],[1,2,3],[1,2,3],[2,3],[2]])
def xD:aJ:=⟨18,mkC Ly.1,[.cell 2 (.some 4)],.false,.false⟩
theorem Wu:OkF 54 xD:=okq func54
def Ay:=cv (a:=gT f55 [[2,5,6,8,9],[2,5,6,8,9,12],[10,11],[2,5,6,8,9,16],[10,11],[10,11]])
def nW:aJ:=⟨29,mkC Ay.1,[.tmp 10,.tmp 11],.false,.false⟩
theorem JE:OkF 55 nW:=okq func55
def Jr:=cv (a:=gT f56 [[2,3],[10],[4],[4]])
def uE:aJ:=⟨11,mkC Jr.1,[.tmp 4],.false,.false⟩
theorem T3:OkF 56 uE:=okq func56
def Kd:=cv (a:=gT f57 [[0,1],[0,1,10],[4],[0,1,5],[0,1,5,14],[0,1,5,25],[4],[0,1,5],[4]] [(.close [])])
def CQ:aJ:=⟨26,mkC Kd.1,[.tmp 4],.false,.false⟩
def LW:=cv (a:=lp Kd.1 0)
def Mj:aP:=mkC LW.1
theorem a4J:OkF 57 CQ:=okq func57
def NL:=cv (a:=gT f58 [[2,3],[2,3,9],[4],[2,3,15],[4],[2,3,21],[4],[2,3,27],[4],[2,3,33],[4],[2,3,39],[4],[2,3,45],[4],[51],[4],[4]])
def AK:aJ:=⟨52,mkC NL.1,[.tmp 4],.false,.false⟩
theorem YB:OkF 58 AK:=okq func58
def Mf:=cv (a:=gT f59 [[2,3],[2,3,10],[4],[2,3,15],[4],[2,3,20],[4],[25],[4],[4]])
def ya:aJ:=⟨26,mkC Mf.1,[.tmp 4],.false,.false⟩
theorem UA:OkF 59 ya:=okq func59
def SO:=cv (a:=gT f62 [[2,5,6,8,9],[2,5,6,8,9,12],[2,5,6,8,9,12,19],[10,11],[10,11]])
def CZ:aJ:=⟨29,mkC SO.1,[.tmp 10,.tmp 11],.false,.false⟩
theorem a2O:OkF 62 CZ:=okq func62
def Om:=cv (a:=gT f63 [[3,4,5],[6]])
def AO:aJ:=⟨61,mkC Om.1,[.tmp 6],.false,.false⟩
theorem a0y:OkF 63 AO:=okq func63
def b4h:=cv (a:=gT f68 [[0,1,2],[6]])
def a00:aJ:=⟨15,mkC b4h.1,[.tmp 6],.false,.false⟩
theorem b9h:OkF 68 a00:=okq func68
def Jq:=cv (a:=gT f71 [[1,2],[4]])
def ul:aJ:=⟨9,mkC Jq.1,[.tmp 4],.false,.false⟩
theorem Rq:OkF 71 ul:=okq func71
def Xt:=cv (a:=gT f72 [[1],[2]])
def HP:aJ:=⟨11,mkC Xt.1,[.tmp 2],.false,.false⟩
theorem a6a:OkF 72 HP:=okq func72
def jb:aP:=(.seq (qS 1000 [qg 2 (.mv (.c (.slice .none 0 0)))] [0]) (.seq (.seq (qS 2000 [qm 3 0,qg 4 (.isNil .false (.t 3))] [0,4]) (.cond (.t 4) (.seq (qS 3000 [qg 2 (.mv (.c (.slice .none 0 0)))] [2]) .ret) .skip)) (.seq (qS 4000 [qg 5 (.buildSlice 2 z0 0 []),qm 6 0,qg 7 (.append 2 16 z0 (.t 5) (.t 6)),qm 2 7] [2]) .ret)))
def bH:aJ:=⟨8,jb,[.tmp 2],.true,.false⟩
theorem wW:OkF 73 bH:=okq func73
def IP:=cv (a:=gT f77 [[1],[2]])
def uq:aJ:=⟨16,mkC IP.1,[.tmp 2],.false,.false⟩
theorem Qx:OkF 77 uq:=okq func77
def Md:=cv (a:=gT f78 [[1],[2]])
def xz:aJ:=⟨27,mkC Md.1,[.tmp 2],.false,.false⟩
theorem Vv:OkF 78 xz:=okq func78
def Eu:=cv (a:=gT f79 [[1],[2]])
def re:aJ:=⟨9,mkC Eu.1,[.tmp 2],.false,.false⟩
theorem ML:OkF 79 re:=okq func79
def ij:=cv (a:=gT f81 [[1,2],[1,2,3],[1,2,3,4],[1,2,3,4,29],[1,2,3,4],[1,2,3,5,6,7],[1,2,3,5,6,7,38,39,40],[1,2,3,5,6,7,38,39,40,41],[1,2,3,5,6,7,9,38,39,40],[1,2,3,5,6,7,38,39,40,46],[1,2,3,5,6,7,38,39,40],[1,2,3,5,6,7,38,39,40],[1,2,3,5,6,7,38,39,40],[1,2,3,5,10],[2,3,5,10,66,67,68],[2,3,5,10,66,67,68,69],[2,3,5,10,11,12,66,67,68],[2,3,5,10,66,67,68],[2,3,5,10,66,67,68],[2,3,5,10,66,67,68,69,89],[2,3,5,10,66,67,68,69],[2,3],[2]] [(.close [4001]),(.close [9002,11002,11003,12002,12003]),(.close [17003,18007]),(.close [])])
def mm:aJ:=⟨113,mkC ij.1,[.cell 2 (.some 6)],.false,.false⟩
def vX:=cv (a:=lp ij.1 0)
def vG:aP:=mkC vX.1
def wz:=cv (a:=lp ij.1 1)
def wk:aP:=mkC wz.1
def tu:=cv (a:=lp ij.1 2)
def tk:aP:=mkC tu.1
def tp:=cv (a:=lp ij.1 3)
def tq:aP:=mkC tp.1
theorem HV:OkF 81 mm:=okq func81
def A5:=cv (a:=gT f83 [[1,2,3],[1,2,3,7],[1,2,3,7],[2,3,7],[7],[6]])
def nU:aJ:=⟨25,mkC A5.1,[.tmp 6],.false,.false⟩
theorem Kh:OkF 83 nU:=okq func83
def Dj:=cv (a:=gT f86 [[1],[1,23],[2],[1,25,26],[1,25,26,27],[1,4,25,26],[1,25,26,37],[2],[1,25,26],[2]] [(.close [7007])])
def xZ:aJ:=⟨39,mkC Dj.1,[.tmp 2],.false,.false⟩
def Tp:=cv (a:=lp Dj.1 0)
def b63:aP:=mkC Tp.1
theorem Wh:OkF 86 xZ:=okq func86
def Jc:=cv (a:=gT f88 [[2,4,5,7],[2,4,5,7,9],[8],[2,4,7,13],[8],[7,32],[8],[38],[8],[8]])
def vo:aJ:=⟨42,mkC Jc.1,[.tmp 8],.false,.false⟩
theorem TQ:OkF 88 vo:=okq func88
def M6:=cv (a:=gT f90 [[2,5,6,8,9],[2,5,6,8,9,18],[10,11],[2,5,6,8,12],[13],[10,11]])
def y9:aJ:=⟨29,mkC M6.1,[.tmp 10,.tmp 11],.false,.false⟩
theorem UB:OkF 90 y9:=okq func90
def Y1:=cv (a:=gT f101 [[0,1,4],[0,1,4,5],[1,4,5,9,10,11],[1,4,5,9,10,11,12],[1,4,5,6,7,9,10,11],[1,4,5,9,10,11],[1,4,5,9,10,11],[4]] [(.close [5003,6006,6007])])
def PX:aJ:=⟨26,mkC Y1.1,[.cell 4 (.some 2)],.false,.false⟩
def WR:=cv (a:=lp Y1.1 0)
def WT:aP:=mkC WR.1
theorem b2I:OkF 101 PX:=okq func101
def Av:=cv (a:=gT f102 [[0],[0,3],[3,12,13,14],[3,12,13,14,15],[3,5,12,13,14],[3,5,6,7,12,13,14],[5,6,7,12,13,14,20,21,22],[5,6,7,12,13,14,20,21,22,23],[5,6,7,9,12,13,14,20,21,22],[5,6,7,12,13,14,20,21,22],[5,6,7,12,13,14,20,21,22],[3,12,13,14],[3,12,13,14],[2]] [(.close [5002,6000,6001,9002,10002,10004,10005,10006,10007,10011,10012,10013,12002,2001]),(.close [9002,10002,10004,10005,10006,10007,10011,10012,10013])])
def Ap:aJ:=⟨46,mkC Av.1,[.tmp 2],.false,.false⟩
def Ik:=cv (a:=lp Av.1 0)
def J8:aP:=mkC Ik.1
def IR:=cv (a:=lp Av.1 1)
def IX:aP:=mkC IR.1
theorem Z2:OkF 102 Ap:=okq func102
def IF:=cv (a:=gT f105 [[1],[2]])
def uy:aJ:=⟨16,mkC IF.1,[.tmp 2],.false,.false⟩
theorem Rg:OkF 105 uy:=okq func105
def LF:=cv (a:=gT f106 [[1],[2]])
def xR:aJ:=⟨28,mkC LF.1,[.tmp 2],.false,.false⟩
theorem VY:OkF 106 xR:=okq func106
def LC:=cv (a:=gT f108 [[1,2],[4]])
def xH:aJ:=⟨17,mkC LC.1,[.tmp 4],.false,.false⟩
theorem W3:OkF 108 xH:=okq func108
def Aq:=cv (a:=gT f112 [[1,2],[1,2],[2]])
def nR:aJ:=⟨8,mkC Aq.1,[.cell 2 (.some 4)],.false,.false⟩
theorem K8:OkF 112 nR:=okq func112
def tT:=cv (a:=gT f113 [[1,2,6,9,10,11],[1,2,6,9,10,11,13],[1,2,6,10,11,13,14,15,16],[1,2,6,10,11,13,14,15,16,34],[12],[1,6,10,11,13,14,38],[12],[1,6,10,11,13,14],[1,6,10,11,13,14,60],[12],[1,6,10,11,13,14],[6,10,11,14,17,18],[11,14,17,18,82,83,84],[11,14,17,18,82,83,84,85],[11,14,17,18,19,20,82,83,84],[11,14,17,18,21,82,83,84],[11,14,17,18,21,82,83,84,101],[12],[11,14,17,18,82,83,84],[12]] [(.close [16010])])
def pk:aJ:=⟨104,mkC tT.1,[.tmp 12],.false,.false⟩
def xc:=cv (a:=lp tT.1 0)
def wY:aP:=mkC xc.1
theorem Ls:OkF 113 pk:=okq func113
def Xz:=cv (a:=gT f114 [[1],[2]])
def HJ:aJ:=⟨11,mkC Xz.1,[.tmp 2],.false,.false⟩
theorem a5s:OkF 114 HJ:=okq func114
def Xs:=cv (a:=gT f115 [[0,1,2],[6]])
def HE:aJ:=⟨15,mkC Xs.1,[.tmp 6],.false,.false⟩
theorem a5I:OkF 115 HE:=okq func115
def xF:=cv (a:=gT f116 [[0,1,2,10,11,12,13,14],[1,2,10,11,12,13,14,16],[1,2,10,11,12,13,14,16,17],[1,2,11,12,13,14,16,17,18],[1,2,11,12,13,14,16,17,18,19],[1,2,11,12,13,14,16,17,18,19,36],[1,2,11,12,13,14,16,17,18,19,20],[1,2,11,12,13,14,16,17,18,19,20,52],[14,15],[1,2,11,12,13,14,16,17,18,19,20],[1,2,11,12,13,14,16,17,18,19,20,21,22],[1,2,11,12,13,14,16,17,18,19,20,22],[1,2,11,12,13,14,16,17,18,19,22],[1,2,11,12,13,14,16,17,18,19],[1,2,11,12,13,14,16,17,18,19,73],[1,2,11,12,13,14,16,17,18,19],[1,2,11,12,13,14,16,17,18,19],[1,11,12,13,14,16,17,88],[14,15],[1,11,12,13,14,16,17],[1,11,12,13,14,16,17,101],[14,15],[1,11,12,13,14,16,17],[1,11,12,13,14,16,17,23],[1,12,13,14,16,17,23,24],[1,12,13,14,16,17,23,24,25],[1,12,13,14,16,17,23,24,25,127],[1,12,13,14,16,17,23,24,25,26],[1,12,13,14,16,17,23,24,25,26,146],[14,15],[1,12,13,14,16,17,23,24,25],[14,15]] [(.close [9006,11002,12001,12005,12006,14002,15002,15003,17006]),(.close [29014])])
def xr:aJ:=⟨150,mkC xF.1,[.cell 14 (.some 4),.tmp 15],.false,.false⟩
def Hd:=cv (a:=lp xF.1 0)
def Hb:aP:=mkC Hd.1
def EB:=cv (a:=lp xF.1 1)
def Em:aP:=mkC EB.1
theorem Wy:OkF 116 xr:=okq func116
def Jn:=cv (a:=gT f117 [[0,1,5],[6]])
def ur:aJ:=⟨17,mkC Jn.1,[.tmp 6],.false,.false⟩
theorem Ti:OkF 117 ur:=okq func117
def Gc:=cv (a:=gT f118 [[1,2],[4]])
def sL:aJ:=⟨9,mkC Gc.1,[.tmp 4],.false,.false⟩
theorem PG:OkF 118 sL:=okq func118
def Th:=cv (a:=gT f119 [[0],[2]])
def DT:aJ:=⟨6,mkC Th.1,[.tmp 2],.false,.false⟩
theorem a3F:OkF 119 DT:=okq func119
def ES:=cv (a:=gT f120 [[1,2],[4]])
def qA:aJ:=⟨9,mkC ES.1,[.tmp 4],.false,.false⟩
theorem MD:OkF 120 qA:=okq func120
def Ez:=cv (a:=gT f121 [[1,2,3],[4]])
def qU:aJ:=⟨9,mkC Ez.1,[.tmp 4],.false,.false⟩
theorem Nk:OkF 121 qU:=okq func121
def GQ:=cv (a:=gT f122 [[1,3,5],[1,3,5,27],[6],[1,5,29,30,31],[1,5,29,30,31,32],[1,5,7,8,29,30,31],[1,5,29,30,31,50],[6],[1,5,29,30,31],[6]] [(.close [7012])])
def zS:aJ:=⟨52,mkC GQ.1,[.tmp 6],.false,.false⟩
def Jd:=cv (a:=lp GQ.1 0)
def Jw:aP:=mkC Jd.1
theorem a0I:OkF 122 zS:=okq func122
def Gn:=cv (a:=gT f123 [[0],[0,3],[0,3,7],[0,3,15],[2],[0,3],[2]] [(.close [5004])])
def AA:aJ:=⟨16,mkC Gn.1,[.tmp 2],.false,.false⟩
def IM:=cv (a:=lp Gn.1 0)
def IQ:aP:=mkC IM.1
theorem a0i:OkF 123 AA:=okq func123
def Tm:=cv (a:=gT f127 [[1,2],[1,2,5,6,7],[1,2,5,6,7,18],[1,2,5,6,7,18,19],[2,5,6,7],[1,2,5,6,7,18,24],[1,2,5,6,7,18,24],[1,2,5,6,7,18,24],[1,2,5,6,7,18,24],[2,5,6,7],[1,2,5,6,7,39],[2,5,6,7],[4]])
def Dy:aJ:=⟨58,mkC Tm.1,[.tmp 4],.false,.false⟩
theorem a4Z:OkF 127 Dy:=okq func127
def pC:=cv (a:=gT f128 [[1,2],[1,2,5],[1,5,9,10,11],[1,5,9,10,11,12],[1,5,7,9,10,11],[1,5,9,10,11,18],[1,5,9,10,11],[1,5,9,10,11],[4]] [(.close [5002])])
def l8:aJ:=⟨23,mkC pC.1,[.tmp 4],.false,.false⟩
def ti:=cv (a:=lp pC.1 0)
def th:aP:=mkC ti.1
theorem H0:OkF 128 l8:=okq func128
def Ow:=cv (a:=gT f131 [[1,2],[4]])
def AW:aJ:=⟨9,mkC Ow.1,[.tmp 4],.false,.false⟩
theorem a0q:OkF 131 AW:=okq func131
def NU:=cv (a:=gT f132 [[0],[2]])
def zV:aJ:=⟨5,mkC NU.1,[.tmp 2],.false,.false⟩
theorem YU:OkF 132 zV:=okq func132
def EA:=cv (a:=gT f133 [[1],[2]])
def ra:aJ:=⟨7,mkC EA.1,[.tmp 2],.false,.false⟩
theorem Nx:OkF 133 ra:=okq func133
def uv:=cv (a:=gT f137 [[1,2],[1,2,3,4],[1,2,3,5],[1,2,3,5,6],[1,2,3,5,6,7],[1,2,3,5,6,7,26],[1,2,3,5,6,7,8],[1,2,3,5,6,7,8,35],[1,2,3,5,6,7,8,35,36],[1,2,3,5,6,7,8,35,36],[1,2,3,5,6,7,8,35,39],[1,2,3,5,6,7,8],[1,2,3,5,6,7],[1,2,3,5,6,7,8,35,61],[1,2,3,5,6,7,8,35,61],[1,2,3,5,6,7,8],[1,2,3,5,6,7,8,9],[1,2,3,5,6,7,8,9,76],[1,2,3,5,6,7,8,9],[1,2,3,5,6,7],[1,2,3,5,6,7],[1,2,3,5,6,7,8,35,93],[1,2,3,5,6,7,8,97],[1,2,3,5,6,7],[1,2,3,5,6,7],[1,2,3,5,6,7,8,35,110],[1,2,3,5,6,7,8],[1,2,3,5,6,7,8],[1,2,3,5,6,7,8],[1,2,3,5,6,7,8],[1,2,3,5,6,7],[1,2,3,5,6,7],[1,2,3,5,6,7,8,153],[1,2,3,5,6,7,8],[1,2,3,5,6,7,8],[1,2,3,5,6,7,8],[1,2,3,5,6,7,8],[1,2,3,5,6,7],[1,2,3,5,6,7],[1,2,3,5,6,7],[1,2,3,5,6,7],[1,2,3,5,6,7],[2,5,6],[2,5,6,218],[2,5,6],[2]] [(.close [8005,13008,14008,17008,21009,22003,25005,26003,28008,29003,30007,32008,33003,35008,36008,37007,39008,40003,41007,3003,3004,3005]),(.close [])])
def uu:aJ:=⟨224,mkC uv.1,[.cell 2 (.some 6)],.false,.false⟩
def ED:=cv (a:=lp uv.1 0)
def EI:aP:=mkC ED.1
def CK:=cv (a:=lp uv.1 1)
def CE:aP:=mkC CK.1
theorem RC:OkF 137 uu:=okq func137
def Bk:=cv (a:=gT f139 [[1],[1,8],[2],[1,3],[1,3,13],[1,3,23],[2],[1,3],[2]] [(.close [7006])])
def uT:aJ:=⟨27,mkC Bk.1,[.tmp 2],.false,.false⟩
def Eo:=cv (a:=lp Bk.1 0)
def EL:aP:=mkC Eo.1
theorem Rx:OkF 139 uT:=okq func139
def AR:=cv (a:=gT f140 [[3,4,5],[3,4,5,51],[6],[3,4,5,7],[3,4,5,7,56],[3,4,5,7,74],[6],[3,4,5,7],[3,4,5,8],[3,4,5,8,79],[3,4,5,8,97],[6],[3,4,5,8],[6]] [(.close [7013]),(.close [12013])])
def A2:aJ:=⟨105,mkC AR.1,[.tmp 6],.false,.false⟩
def Jp:=cv (a:=lp AR.1 0)
def Jb:aP:=mkC Jp.1
def Jl:=cv (a:=lp AR.1 1)
def JB:aP:=mkC Jl.1
theorem ZF:OkF 140 A2:=okq func140
def SM:=cv (a:=gT f142 [[2,4,5,7],[2,4,5,7,9],[8],[2,4,7,13],[8],[7,32],[8],[38],[8],[8]])
def D2:aJ:=⟨41,mkC SM.1,[.tmp 8],.false,.false⟩
theorem a4O:OkF 142 D2:=okq func142
def J4:=cv (a:=gT f144 [[2,5,6,8,9],[2,5,6,8,11],[2,5,6,8,11,12],[2,5,6,8,11,12,13,14,15],[2,5,6,8,11,12,13,14,15,51],[10],[2,5,6,8,11,13,14,65],[10],[2,5,6,8,11,13,14],[2,5,6,8,11,13,14,16],[2,5,6,8,11,13,14,16,17],[2,5,6,8,11,13,14,15,16,18],[2,5,6,8,11,13,14,15,16,18,113],[10],[2,5,6,8,11,13,14,16,18,19],[2,5,6,8,11,13,14,16,18,19,20],[5,6,8,11,13,14,16,18,19,21],[5,6,8,11,14,19,21,22],[5,6,8,11,19,148],[10],[5,6,8,11,19],[15],[10]])
def vi:aJ:=⟨171,mkC J4.1,[.tmp 10],.false,.false⟩
theorem Ul:OkF 144 vi:=okq func144
def OI:=cv (a:=gT f145 [[0,1],[1],[1,10],[4],[4]])
def Aw:aJ:=⟨12,mkC OI.1,[.tmp 4],.false,.false⟩
theorem Zi:OkF 145 Aw:=okq func145
def Fx:=cv (a:=gT f146 [[0,1],[0,1],[0,1,11],[4],[0,1,5],[0,1,5,15],[0,1,5],[0,1,5,25],[4],[0,1,5],[4]] [(.close [8005])])
def Az:aJ:=⟨27,mkC Fx.1,[.tmp 4],.false,.false⟩
def Iv:=cv (a:=lp Fx.1 0)
def ID:aP:=mkC Iv.1
theorem Yg:OkF 146 Az:=okq func146
def Ii:=cv (a:=gT f147 [[1,2],[1,2],[1,2,10],[4],[1,2],[1,2,16],[4],[1],[1,22],[4],[4]])
def uO:aJ:=⟨24,mkC Ii.1,[.tmp 4],.false,.false⟩
theorem QR:OkF 147 uO:=okq func147
def S5:=cv (a:=gT f148 [[0,1],[1],[1,10],[4],[4]])
def D8:aJ:=⟨12,mkC S5.1,[.tmp 4],.false,.false⟩
theorem a2i:OkF 148 D8:=okq func148
def Sr:=cv (a:=gT f149 [[2,5,6,8,9],[2,5,6,8,9,16],[10,11],[2,5,6,8,9,12],[2,5,6,8,9,12,23],[10,11],[2,5,6,8,9,29],[10,11],[13],[10,11]])
def Dr:aJ:=⟨39,mkC Sr.1,[.tmp 10,.tmp 11],.false,.false⟩
theorem a2t:OkF 149 Dr:=okq func149
def G6:=cv (a:=gT f150 [[0],[0,3],[0,3,4],[0,3,4,11],[0,3,4],[0,3,4],[2]] [(.close [6006])])
def zW:aJ:=⟨23,mkC G6.1,[.tmp 2],.false,.false⟩
def Jo:=cv (a:=lp G6.1 0)
def Js:aP:=mkC Jo.1
theorem a0c:OkF 150 zW:=okq func150
def Gq:=cv (a:=gT f151 [[0],[0,3],[0,3,4],[0,3,4,11],[0,3,4],[0,3,4],[2]] [(.close [6006])])
def AC:aJ:=⟨23,mkC Gq.1,[.tmp 2],.false,.false⟩
def IY:=cv (a:=lp Gq.1 0)
def IL:aP:=mkC IY.1
theorem a0v:OkF 151 AC:=okq func151
def X4:=cv (a:=gT f152 [[1,2],[1,2,3],[1,2,3],[2,3],[2]])
def Hq:aJ:=⟨11,mkC X4.1,[.cell 2 (.some 2)],.false,.false⟩
theorem a60:OkF 152 Hq:=okq func152
def IS:=cv (a:=gT f153 [[1,2],[1,2,3],[1,2,3],[1,2,3],[1,2,3],[1,2,3],[2,3],[2]])
def um:aJ:=⟨24,mkC IS.1,[.cell 2 (.some 6)],.false,.false⟩
theorem QK:OkF 153 um:=okq func153
def Kv:=cv (a:=gT f154 [[0],[0,3],[0,3,4],[0,3,4,11],[0,3,4],[0,3,4],[2]] [(.close [6006])])
def Df:aJ:=⟨23,mkC Kv.1,[.tmp 2],.false,.false⟩
def Ml:=cv (a:=lp Kv.1 0)
def KQ:aP:=mkC Ml.1
theorem a2f:OkF 154 Df:=okq func154
def GK:=cv (a:=gT f155 [[0,1],[0,1,10],[4],[0,1,5],[0,1,5,14],[0,1,5,26],[4],[0,1,5],[4]] [(.close [7008])])
def zR:aJ:=⟨27,mkC GK.1,[.tmp 4],.false,.false⟩
def IZ:=cv (a:=lp GK.1 0)
def IC:aP:=mkC IZ.1
theorem Zg:OkF 155 zR:=okq func155
def Gj:=cv (a:=gT f156 [[0,1],[0,1,10],[4],[0,1,5],[0,1,5,14],[0,1,5,26],[4],[0,1,5],[4]] [(.close [7008])])
def Ac:aJ:=⟨27,mkC Gj.1,[.tmp 4],.false,.false⟩
def Ji:=cv (a:=lp Gj.1 0)
def Ja:aP:=mkC Ji.1
theorem a0p:OkF 156 Ac:=okq func156
def Xp:=cv (a:=gT f157 [[2,3],[2,3,9],[4],[14],[4],[4]])
def Hv:aJ:=⟨15,mkC Xp.1,[.tmp 4],.false,.false⟩
theorem a7J:OkF 157 Hv:=okq func157
def IT:=cv (a:=gT f158 [[2,3],[2,3,10],[4],[2,3,16],[4],[2,3,22],[4],[2,3,27],[4],[33],[4],[4]])
def uw:aJ:=⟨34,mkC IT.1,[.tmp 4],.false,.false⟩
theorem R1:OkF 158 uw:=okq func158
def JW:=cv (a:=gT f159 [[0,1],[0,1,10],[4],[0,1,5],[0,1,5,14],[0,1,5,26],[4],[0,1,5],[4]] [(.close [7008])])
def CU:aJ:=⟨27,mkC JW.1,[.tmp 4],.false,.false⟩
def Lm:=cv (a:=lp JW.1 0)
def L2:aP:=mkC Lm.1
theorem a2W:OkF 159 CU:=okq func159
def a7S:=cv (a:=gT f164 [[0,1],[4]])
def Q6:aJ:=⟨9,mkC a7S.1,[.tmp 4],.false,.false⟩
theorem b3y:OkF 164 Q6:=okq func164
def jM:=cv (a:=gT f166 [[0,1],[4]])
def dS:aJ:=⟨9,mkC jM.1,[.tmp 4],.false,.false⟩
theorem pZ:OkF 166 dS:=okq func166
def EZ:=cv (a:=gT f167 [[1,2],[3]])
def qK:aJ:=⟨8,mkC EZ.1,[.tmp 3],.false,.false⟩
theorem MR:OkF 167 qK:=okq func167
def TY:=cv (a:=gT f168 [[0],[2]])
def D5:aJ:=⟨7,mkC TY.1,[.tmp 2],.false,.false⟩
theorem a4N:OkF 168 D5:=okq func168
def a8R:=cv (a:=gT f170 [[0,1],[4]])
def PW:aJ:=⟨10,mkC a8R.1,[.tmp 4],.false,.false⟩
theorem b6D:OkF 170 PW:=okq func170
def a86:=cv (a:=gT f171 [[0,1],[4]])
def Q1:aJ:=⟨9,mkC a86.1,[.tmp 4],.false,.false⟩
theorem b2f:OkF 171 Q1:=okq func171
def FN:=cv (a:=gT f172 [[0,2,5,7],[0,2,5,7,8],[0,2,5,7,8,11],[0,2,5,7,8,11,12],[],[0,2,5,7,8,11,21],[],[0,2,5,7,8,11,35],[],[0,2,5,7,8,11,49],[],[0,2,5,7,8,11,63],[0,2,5,8],[],[0,2,5,7,8,79],[0,2,5,8],[]])
def sc:aJ:=⟨100,mkC FN.1,[],.false,.false⟩
theorem Pz:OkF 172 sc:=okq func172
def DS:=cv (a:=gT f175 [[0],[0,3],[3,7,8,9],[3,7,8,9,10],[3,5,7,8,9],[3,7,8,9],[3,7,8,9],[2]] [(.close [5002,6003,6006])])
def y6:aJ:=⟨22,mkC DS.1,[.tmp 2],.false,.false⟩
def Hc:=cv (a:=lp DS.1 0)
def Fu:aP:=mkC Hc.1
theorem V6:OkF 175 y6:=okq func175
def xa:=cv (a:=gT f177 [[1,2],[2]])
def l7:aJ:=⟨10,mkC xa.1,[.cell 2 (.some 3)],.false,.false⟩
theorem H8:OkF 177 l7:=okq func177
def E5:=cv (a:=gT f178 [[0,1,2],[0,1,2,9,10,11],[0,1,2,9,10,11,12],[0,1,2,7,8,9,10,11],[0,1,2,9,10,11,49],[6],[0,1,2,9,10,11],[6]] [(.close [4003,5004,5011,5017,5030])])
def xX:aJ:=⟨54,mkC E5.1,[.tmp 6],.false,.false⟩
def Fq:=cv (a:=lp E5.1 0)
def GS:aP:=mkC Fq.1
theorem W9:OkF 178 xX:=okq func178
def Al:=cv (a:=gT f184 [[0,3,6,7,9],[0,3,6,7,9],[0,3,6,7,9],[0,3,6,7,9,11],[0,3,6,7,9,11,12,13,14],[0,3,6,7,9,11,12,13,14,44],[10],[0,3,6,7,9,12,13,48],[10],[0,3,6,7,9,12,13],[0,3,6,7,9,12,13,15],[0,3,6,7,9,12,13,14,15,16],[0,3,6,7,9,12,13,14,15,16,91],[10],[0,3,6,7,9,12,13,15,16,17,18],[0,3,6,7,9,13,17,18,19],[0,7,9,17,124],[10],[0,7,9,17],[10]])
def nV:aJ:=⟨140,mkC Al.1,[.tmp 10],.false,.false⟩
theorem Kk:OkF 184 nV:=okq func184
def Dp:=cv (a:=gT f187 [[1,2],[1,2,5],[1,2,5,6],[1,2,5,6,11],[1,2,5,6],[1,2,5,6],[4]] [(.close [6009])])
def xJ:aJ:=⟨26,mkC Dp.1,[.tmp 4],.false,.false⟩
def Hg:=cv (a:=lp Dp.1 0)
def FZ:aP:=mkC Hg.1
theorem Ve:OkF 187 xJ:=okq func187
def O0:=cv (a:=gT f188 [[0],[0,3],[2],[6],[2],[2]])
def zP:aJ:=⟨9,mkC O0.1,[.tmp 2],.false,.false⟩
theorem Zq:OkF 188 zP:=okq func188
def IN:=cv (a:=gT f191 [[1,2,4],[2,4],[2,4],[4]])
def vj:aJ:=⟨19,mkC IN.1,[.cell 4 (.some 4)],.false,.false⟩
theorem Ss:OkF 191 vj:=okq func191
def Og:=cv (a:=gT f192 [[1,2,3],[1,2,3,9],[1,2,3,4],[1,2,3,4],[2,3],[1,2,3,5],[1,2,3,5],[2,3]])
def Ah:aJ:=⟨47,mkC Og.1,[.cell 2 (.some 4),.cell 3 (.some 2)],.false,.false⟩
theorem YZ:OkF 192 Ah:=okq func192
def Ju:=cv (a:=gT f198 [[2,3,4],[4]])
def uJ:aJ:=⟨16,mkC Ju.1,[.cell 4 (.some 2)],.false,.false⟩
theorem Sg:OkF 198 uJ:=okq func198
def LU:=cv (a:=gT f199 [[2,3,4],[4]])
def y8:aJ:=⟨16,mkC LU.1,[.cell 4 (.some 2)],.false,.false⟩
theorem VJ:OkF 199 y8:=okq func199
def Jh:=cv (a:=gT f200 [[2,3,4],[4]])
def uH:aJ:=⟨29,mkC Jh.1,[.cell 4 (.some 2)],.false,.false⟩
theorem Rl:OkF 200 uH:=okq func200
def a7V:=cv (a:=gT f201 [[0],[0]])
def Q2:aJ:=⟨2,mkC a7V.1,[.cell 0 (.some 2)],.false,.false⟩
theorem b2t:OkF 201 Q2:=okq func201
def HH:=cv (a:=gT f204 [[0],[0,3],[0,3,4],[0,3,4,12],[0,3,4,5],[0,3,4,5,6],[0,3,4,5,6,22],[0,3,4,5,6],[0,3,4,5,6],[0,3,4,5,6],[0,3,4],[0,3,4],[2]] [(.close [6003,10010,10011,11013,2001]),(.close [10010,10011,11013])])
def HC:aJ:=⟨55,mkC HH.1,[.tmp 2],.false,.false⟩
def OO:=cv (a:=lp HH.1 0)
def O8:aP:=mkC OO.1
def OG:=cv (a:=lp HH.1 1)
def Ox:aP:=mkC OG.1
theorem a5Y:OkF 204 HC:=okq func204
def Oj:=cv (a:=gT f207 [[1,2,4],[4]])
def AD:aJ:=⟨10,mkC Oj.1,[.cell 4 (.some 4)],.false,.false⟩
theorem a1b:OkF 207 AD:=okq func207
def Bg:=cv (a:=gT f213 [[0,1],[0,1,5],[0,5,6],[0,5,6,11],[0,5,6],[0,5,6],[4]] [(.close [6007,6008])])
def uX:aJ:=⟨24,mkC Bg.1,[.tmp 4],.false,.false⟩
def Es:=cv (a:=lp Bg.1 0)
def EO:aP:=mkC Es.1
theorem RY:OkF 213 uX:=okq func213
def BE:=cv (a:=gT f214 [[1,2,3,6],[1,2,6,8,9],[1,2,6,8,9,10],[1,2,6,8,9,10,11],[1,2,6,8,9,10,11,21],[1,2,6,8,9,10,11],[1,2,6,8,9,10,11],[6,7]] [(.close [7008,7009])])
def ut:aJ:=⟨36,mkC BE.1,[.cell 6 (.some 4),.tmp 7],.false,.false⟩
def Fe:=cv (a:=lp BE.1 0)
def Fh:aP:=mkC Fe.1
theorem SD:OkF 214 ut:=okq func214
def BD:aP:=(.seq (.seq (qS 3000 [qm 12 3,qn 13 12,qB 14 .rem 13 136,qB 15 .neq 14 0] [3,15]) (.cond (.t 15) .skip (.exit 0))) (.block 1 (qS 4000 [qm 16 3,qg 17 (.buildSlice 1 [(.int .u8 0)] 1 [(0,(.c (.int .u8 0)))]),qg 18 (.append 1 1 [(.int .u8 0)] (.t 16) (.t 17)),qm 3 18] [3])))
def zh:aP:=(.seq (.seq (qS 12000 [qm 41 7,qB 42 .lss 41 25] [3,4,5,6,7,42]) (.cond (.t 42) .skip (.exit 4))) (.seq (.block 5 (.drawn 14000 [qm 45 7,qX 46 25 1 4 45,ql 47 46,qm 48 7,qX 49 25 1 6 48,ql 50 49,qb 51 .xor 47 50,qX 52 25 1 4 45,qu 1 52 51] [[],[0],[1,0],[],[3],[4,3],[2,1,0,5,4,3],[0,1,2,3,4,5,6],[7,0,1,2,3,4,5,6]] [3,4,5,6,7])) (qS 13000 [qm 43 7,qB 44 .add 43 1,qm 7 44] [3,4,5,6,7])))
def Bh:aP:=(.seq (.seq (qS 8000 [qm 28 5,qm 29 3,qn 30 29,qb 31 .lss 28 30] [3,4,5,31]) (.cond (.t 31) .skip (.exit 2))) (.seq (.block 3 (.seq (qS 10000 [qm 34 3,qm 35 5,qm 36 5,qB 37 .add 36 136,qg 38 (.slice 1 (.t 34) (.some (.t 35)) (.some (.t 37)) .none),qg 39 (.toStr (.t 38)),qc 40 321 [39],qg 6 (.alloc (zar .u64 25)),qu 25 6 40] [3,4,5,6]) (.seq (.seq (qS 11000 [qi 7 0] [3,4,5,6,7]) (.block 4 (.loop (qj (.close []) zh)))) (qS 15000 [qL 53 25 4,qc 54 322 [53],qu 25 4 54] [3,4,5])))) (qS 9000 [qm 32 5,qB 33 .add 32 136,qm 5 33] [3,4,5])))
def Ou:aP:=(.seq (qS 1000 [qg 2 (.mv (.c (.string ⟨⟨[]⟩⟩)))] [0]) (.seq (qS 2000 [qm 8 0,qg 9 (.toBytes (.t 8)),qg 10 (.buildSlice 1 [(.int .u8 0)] 1 [(0,(.c (.int .u8 1)))]),qg 11 (.append 1 1 [(.int .u8 0)] (.t 9) (.t 10)),qm 3 11] [3]) (.seq (.block 0 (.loop (qj (.close [4001,4002]) BD))) (.seq (qS 5000 [qm 19 3,qm 20 3,qn 21 20,qB 22 .sub 21 1,qx 23 1 19 22,ql 24 23,qg 25 (.bin .or (.t 24) (.c (.int .u8 128))),qx 26 1 19 22,qu 1 26 25] [3]) (.seq (qS 6000 [qg 27 (.build (zar .u64 25) []),qg 4 (.alloc (zar .u64 25)),qu 25 4 27] [3,4]) (.seq (.seq (qS 7000 [qi 5 0] [3,4,5]) (.block 2 (.loop (qj (.close [10006,10007,15001,2001]) Bh)))) (.seq (qS 16000 [qL 55 25 4,qg 56 (.call 323 [(.t 55),(qI 32)]),qm 2 56] [2]) .ret)))))))
def zY:aJ:=⟨57,Ou,[.tmp 2],.false,.false⟩
theorem YI:OkF 218 zY:=okq func218
def kB:=cv (a:=gT f219 [[0,1,3,4,7,11],[0,1,3,4,7,11,13],[0,1,4,7,11,13,18,19,20],[0,1,4,7,11,13,18,19,20,21],[0,1,4,7,11,13,14,15,18,19,20],[0,1,4,7,11,13,14,15,18,19,20,25],[10,11,12],[0,1,4,7,11,13,14,15,18,19,20,33],[10,11,12],[0,1,4,7,11,13,14,15,18,19,20],[0,1,4,7,11,13,14,15,16,18,19,20],[0,1,4,7,11,13,14,18,19,20],[0,1,4,7,11,13,18,19,20],[0,1,4,7,11,13,18,19,20],[10,11,12]] [(.close [6003,8006,10002,11001,11002,12002,12005,12006,13002])])
def fY:aJ:=⟨62,mkC kB.1,[.tmp 10,.cell 11 (.some 2),.tmp 12],.false,.false⟩
def mP:=cv (a:=lp kB.1 0)
def je:aP:=mkC mP.1
theorem Fj:OkF 219 fY:=okq func219
def zA:=cv (a:=gT f220 [[0,2,3,8],[]])
def mr:aJ:=⟨17,mkC zA.1,[],.false,.false⟩
theorem I6:OkF 220 mr:=okq func220
def AG:=cv (a:=gT f221 [[]])
def nQ:aJ:=⟨23,mkC AG.1,[],.false,.false⟩
theorem JK:OkF 221 nQ:=okq func221
def QP:=cv (a:=gT f222 [[0,1,4],[0,1,4,5],[1,4,5,9,10,11],[1,4,5,9,10,11,12],[1,4,5,6,7,9,10,11],[1,4,5,9,10,11],[1,4,5,9,10,11],[4]] [(.close [5003,6006,6007,6009,6010,6015,6016,6017,6018])])
def Mr:aJ:=⟨37,mkC QP.1,[.cell 4 (.some 2)],.false,.false⟩
def QG:=cv (a:=lp QP.1 0)
def TO:aP:=mkC QG.1
theorem b1R:OkF 222 Mr:=okq func222
def tl:=cv (a:=gT f223 [[]])
def jW:aJ:=⟨8,mkC tl.1,[],.false,.false⟩
theorem Ed:OkF 223 jW:=okq func223
def EH:=cv (a:=gT f224 [[1,2,3],[1,7],[6]] [] [(2,.close [2009])])
def qz:aJ:=⟨25,mkC EH.1,[.tmp 6],.false,.false⟩
theorem Ny:OkF 224 qz:=okq func224
def Sy:=cv (a:=gT f225 [[0,1],[4]])
def C5:aJ:=⟨19,mkC Sy.1,[.tmp 4],.false,.false⟩
theorem a9G:OkF 225 C5:=okq func225
def JJ:=cv (a:=gT f226 [[0,1],[0,1,5],[1,5,9,10,11],[1,5,9,10,11,12],[1,5,7,9,10,11],[1,5,9,10,11],[1,5,9,10,11],[4]] [(.close [5002,6005,6006])])
def CT:aJ:=⟨24,mkC JJ.1,[.tmp 4],.false,.false⟩
def Mt:=cv (a:=lp JJ.1 0)
def M9:aP:=mkC Mt.1
theorem a2w:OkF 226 CT:=okq func226
def tv:=cv (a:=gT f227 [[0,1],[0,1,5],[0,5,7,8],[0,5,7,8,9],[0,5,7,8],[0,5,7,8],[4]] [(.close [5002,5003,5004])])
def p5:aJ:=⟨17,mkC tv.1,[.tmp 4],.false,.false⟩
def z7:=cv (a:=lp tv.1 0)
def yt:aP:=mkC z7.1
theorem KC:OkF 227 p5:=okq func227
def zo:=cv (a:=gT f228 [[0,1,2,3,10,11],[0,1,2,3,10,11,13],[1,2,3,10,11,13,22,23,24],[1,2,3,10,11,13,22,23,24,25],[1,2,3,10,11,13,14,15,22,23,24],[1,2,3,10,11,13,14,15,16,22,23,24],[1,2,3,10,11,13,14,15,16,17,18,19,22,23,24],[1,2,3,10,11,13,14,16,17,18,19,22,23,24,64],[12],[1,2,3,10,11,13,14,16,17,18,19,20,22,23,24],[1,2,10,11,13,14,16,17,18,19,20,22,23,24,69],[1,2,10,11,13,14,16,17,18,19,20,22,23,24],[1,2,10,11,13,14,16,17,18,19,22,23,24,77],[12],[1,2,3,10,11,13,22,23,24],[1,2,3,10,11,13,22,23,24],[92],[12],[12]] [(.close [7017,7018,8006,8007,8014,10001,15008])])
def sO:aJ:=⟨93,mkC zo.1,[.tmp 12],.false,.false⟩
def Ch:=cv (a:=lp zo.1 0)
def BS:aP:=mkC Ch.1
theorem Pb:OkF 228 sO:=okq func228
def Oh:=cv (a:=gT f229 [[0],[2]])
def Ad:aJ:=⟨5,mkC Oh.1,[.tmp 2],.false,.false⟩
theorem YS:OkF 229 Ad:=okq func229
def QN:=cv (a:=gT f230 [[2,3,4],[4]])
def DX:aJ:=⟨16,mkC QN.1,[.cell 4 (.some 2)],.false,.false⟩
theorem a3M:OkF 230 DX:=okq func230
end Go.AI.Fn
