/- Part. -/
import Derived.Test.YtdnkignjanfikaaGreatTb0
set_option linter.unusedVariables false
set_option maxRecDepth 100000
set_option maxHeartbeats 2000000
namespace Go.AI.Fn
open Proofs.Tryz
def Vy:=gV f3 [[0,1],[0,1,36],[4],[0,1,5],[0,1,5,6,7],[0,1,5,6,7,51],[4],[0,1,5,6,8],[0,1,5,6,8,58],[0,1,5,6,8,9,10],[0,1,5,6,8,9,66],[4],[0,1,5,6,8],[0,1,5,6,8,11,12],[0,1,5,6,8,11,12,81],[4],[0,1,5,6,8,11,13,14],[0,1,5,6,8,13,14,15,16],[0,1,5,6,8,13,14,15,16,17,18],[0,1,6,8,14,15,16,17,18,19,20],[0,1,6,8,14,15,16,17,18,19,20,21,22],[0,1,6,8,151],[4],[0,6,8,23],[6,8,23,24],[6,8,23,24,26],[26,28],[4]]
def a_w_FnTop:=qF 195 Vy.1 [.tmp 4]
theorem a35:OkF 3 a_w_FnTop:=okq func3
def LZ:=gV f11 [[0,2],[2,3,4,5,6,7],[2]]
def zl:=qF 23 LZ.1 [.cell 2 (.some 10)]
theorem TQ:OkF 11 zl:=okq func11
def JK:=gV f12 [[0,1,2,6],[0,1,2,6,22],[6,7],[0,1,2,6,8],[0,1,2,6,8,25],[0,1,2,6,8,9],[0,1,2,6,8,9,35],[6,7],[0,1,2,6,8],[6,7]] [(.close [7004,8001])]
def EL:=qF 38 JK.1 [.cell 6 (.some 3),.tmp 7]
def Me:=cv (a:=lp JK.1 0)
def Mb:aU:=mkC Me.1
theorem a0n:OkF 12 EL:=okq func12
def b5w:=gV f13 [[0,1,2],[0,1,2,8],[6],[0,1,2,11],[6],[6]]
def VZ:=qF 42 b5w.1 [.tmp 6]
theorem b9D:OkF 13 VZ:=okq func13
def IF:=gV f14 [[0,1,4],[0,1,4,6],[4,5],[0,1,4,15],[4,5],[0,1,4,20],[4,5],[4,5]]
def xr:=qF 36 IF.1 [.cell 4 (.some 4),.tmp 5]
theorem R1:OkF 14 xr:=okq func14
def RH:=gV f15 [[0,1],[4]]
def ED:=qF 9 RH.1 [.tmp 4]
theorem a0W:OkF 15 ED:=okq func15
def CL:=gV f16 [[2,3,5,6,9,10],[2,3,5,6,9,10,12],[2,3,5,6,9,10,12,21],[10,11],[2,3,5,6,9,10,24],[10,11],[2,3,5,6,9,10,34],[10,11],[2,5,6,9,10,13,14],[2,5,6,9,10,13,47],[10,11],[2,5,6,9,10,13,15],[10,11]]
def sw:=qF 64 CL.1 [.cell 10 (.some 17),.tmp 11]
theorem Kq:OkF 16 sw:=okq func16
def Mn:=gV f17 [[1,2],[1,2,6],[2,3],[2,3]]
def zJ:=qF 10 Mn.1 [.cell 2 (.some 6),.tmp 3]
theorem TC:OkF 17 zJ:=okq func17
def FN:=gV f18 [[3,4,5],[3,12],[6,7],[6,7]]
def uY:=qF 15 FN.1 [.tmp 6,.tmp 7]
theorem Pm:OkF 18 uY:=okq func18
def J4:=gV f19 [[2,3],[2,3,13],[4,5],[4,5]]
def xv:=qF 17 J4.1 [.tmp 4,.tmp 5]
theorem Rh:OkF 19 xv:=okq func19
def Fp:=gV f20 [[2,3,5,6,9],[2,3,5,6,9,17],[10,11],[2,3,5,6,9,12],[2,3,5,6,9,12,24],[10,11],[2,5,6,9,13,14],[2,5,6,9,13,34],[10,11],[10,11]]
def tY:=qF 43 Fp.1 [.tmp 10,.tmp 11]
theorem Nr:OkF 20 tY:=okq func20
def Jk:=gV f21 [[1],[1,6],[2,3],[2,3]]
def xx:=qF 9 Jk.1 [.tmp 2,.tmp 3]
theorem Qy:OkF 21 xx:=okq func21
def Jf:=gV f22 [[0,2],[2]]
def xC:=qF 6 Jf.1 [.cell 2 (.some 1)]
theorem Tn:OkF 22 xC:=okq func22
def Ky:=gV f23 [[0,3,4],[4,5,6],[4]]
def zg:=qF 17 Ky.1 [.cell 4 (.some 2)]
theorem Ur:OkF 23 zg:=okq func23
def H8:=gV f24 [[1,2,3],[1,2,3,8],[1,2,3,8,16],[6,7],[9,10],[9,26],[6,7],[6,7]]
def vS:=qF 28 H8.1 [.tmp 6,.tmp 7]
theorem Pk:OkF 24 vS:=okq func24
def Jq:=gV f33 [[3,4,5],[6]]
def xA:=qF 56 Jq.1 [.tmp 6]
theorem QW:OkF 33 xA:=okq func33
def Cl:=gV f36 [[1],[1,9],[2],[1,11,12,13],[1,11,12,13,14],[1,3,4,11,12,13],[1,11,12,13,21],[2],[1,11,12,13],[2]] [(.close [6003,7002])]
def xb:=qF 26 Cl.1 [.tmp 2]
def EW:=cv (a:=lp Cl.1 0)
def EZ:aU:=mkC EW.1
theorem Sv:OkF 36 xb:=okq func36
def O2:=gV f63 [[3,4,5],[6]]
def BL:=qF 61 O2.1 [.tmp 6]
theorem Wi:OkF 63 BL:=okq func63
def IJ:=gV f66 [[0],[2]]
def xl:j4:=⟨9,mkC IJ.1,[.tmp 2],.true,.false⟩
theorem T9:OkF 66 xl:=okq func66
def BF:=gV f67 [[0,2,5,6],[0,2,5,6,7],[0,2,5,6,7,8,9],[0,2,5,6,7,8,9,24],[0,2,5,6,7],[0,2,5,6,7,8],[0,2,5,6,7,8,9],[2,3,4,5,6]]
def pM:=qF 44 BF.1 [.cell 2 (.some 1),.tmp 3,.tmp 4,.cell 5 (.some 3),.cell 6 (.some 4)]
theorem Kc:OkF 67 pM:=okq func67
def b2o:=gV f68 [[0,1,2],[6]]
def Xn:=qF 15 b2o.1 [.tmp 6]
theorem b8C:OkF 68 Xn:=okq func68
def o8:=gV f69 [[1],[1,3,4,5],[1,3,4,5,7,8],[1,3,4,5,7,8,9],[1,3,4,5,7,8],[1,3,4,5,7,8],[1,3,4,5,7,8,9,27],[1,3,4,5,7,8,9],[2]] [(.close []),(.close [])]
def ot:=qF 34 o8.1 [.tmp 2]
def y7:=cv (a:=lp o8.1 0)
def xP:aU:=mkC y7.1
def y8:=cv (a:=lp o8.1 1)
def xZ:aU:=mkC y8.1
theorem Ib:OkF 69 ot:=okq func69
def RL:=gV f70 [[0],[2]]
def DI:=qF 6 RL.1 [.tmp 2]
theorem YN:OkF 70 DI:=okq func70
def Jc:=gV f71 [[1,2],[4]]
def wW:=qF 9 Jc.1 [.tmp 4]
theorem SL:OkF 71 wW:=okq func71
def V8:=gV f72 [[1],[2]]
def Ho:=qF 11 V8.1 [.tmp 2]
theorem a4i:OkF 72 Ho:=okq func72
def kA:aU:=(.seq (qS 1000 [qg 2 (.mv (.c (.slice .none 0 0)))] [0]) (.seq (.seq (qS 2000 [qm 3 0,qg 4 (.isNil .false (.t 3))] [0,4]) (.cond (.t 4) (.seq (qS 3000 [qg 2 (.mv (.c (.slice .none 0 0)))] [2]) .ret) .skip)) (.seq (qS 4000 [qg 5 (.buildSlice 2 z0 0 []),qm 6 0,qg 7 (.append 2 16 z0 (.t 5) (.t 6)),qm 2 7] [2]) .ret)))
def bJ:j4:=⟨8,kA,[.tmp 2],.true,.false⟩
theorem yA:OkF 73 bJ:=okq func73
def M2:=gV f74 [[0],[2]]
def zk:=qF 6 M2.1 [.tmp 2]
theorem TZ:OkF 74 zk:=okq func74
def yD:=gV f75 [[0,1],[0,1,5],[0,1,5,6],[0,1,5,6,10],[0,1,5,6],[0,1,5,6],[4]] [(.close [6002,6003,6004])]
def tS:=qF 19 yD.1 [.tmp 4]
def Ba:=cv (a:=lp yD.1 0)
def Bg:aU:=mkC Ba.1
theorem Nq:OkF 75 tS:=okq func75
def OA:=gV f76 [[1,2,3],[1,2,3,7],[6],[1,2,3,16],[6],[1,2,3,20],[6],[29],[6],[6]]
def BJ:=qF 42 OA.1 [.tmp 6]
theorem XE:OkF 76 BJ:=okq func76
def Js:=gV f77 [[1],[2]]
def wZ:=qF 16 Js.1 [.tmp 2]
theorem Tp:OkF 77 wZ:=okq func77
def KK:=gV f78 [[1],[2]]
def zL:=qF 27 KK.1 [.tmp 2]
theorem U2:OkF 78 zL:=okq func78
def Fv:=gV f79 [[1],[2]]
def u4:=qF 9 Fv.1 [.tmp 2]
theorem MJ:OkF 79 u4:=okq func79
def yH:=gV f80 [[1,2,3],[1,2,3,8],[1,2,8,14,15,16],[1,2,8,14,15,16,17],[1,2,8,10,14,15,16],[1,2,8,10,11,14,15,16],[1,2,8,10,11,14,15,16,23],[1,2,8,10,11,14,15,16,23,24],[1,2,8,11,14,15,16],[1,2,8,10,11,14,15,16,23,31],[1,2,8,11,14,15,16],[1,2,8,10,11,14,15,16,23,38],[1,2,8,11,14,15,16],[1,2,8,10,11,14,15,16,23,51],[1,2,8,11,14,15,16],[1,2,8,10,11,14,15,16,23,64],[1,2,8,11,14,15,16],[1,2,8,10,11,14,15,16,23,77],[1,2,8,10,11,14,15,16,77],[1,2,8,10,11,14,15,16],[1,2,8,11,14,15,16,105],[6,7],[1,2,8,14,15,16],[1,2,8,14,15,16],[6,7]] [(.close [5002,13010,15010,17010,23002,23003])]
def tD:=qF 112 yH.1 [.tmp 6,.tmp 7]
def BE:=cv (a:=lp yH.1 0)
def BH:aU:=mkC BE.1
theorem N2:OkF 80 tD:=okq func80
def j9:=gV f81 [[1,2],[1,2,3],[1,2,3,4],[1,2,3,4,29],[1,2,3,4],[1,2,3,5,6,7],[1,2,3,5,6,7,38,39,40],[1,2,3,5,6,7,38,39,40,41],[1,2,3,5,6,7,9,38,39,40],[1,2,3,5,6,7,38,39,40,46],[1,2,3,5,6,7,38,39,40],[1,2,3,5,6,7,38,39,40],[1,2,3,5,6,7,38,39,40],[1,2,3,5,10],[2,3,5,10,66,67,68],[2,3,5,10,66,67,68,69],[2,3,5,10,11,12,66,67,68],[2,3,5,10,66,67,68],[2,3,5,10,66,67,68],[2,3,5,10,66,67,68,69,89],[2,3,5,10,66,67,68,69],[2,3],[2]] [(.close [4001]),(.close [9002,11002,11003,12002,12003]),(.close [17003,18007]),(.close [])]
def oF:=qF 113 j9.1 [.cell 2 (.some 6)]
def xT:=cv (a:=lp j9.1 0)
def yf:aU:=mkC xT.1
def yg:=cv (a:=lp j9.1 1)
def ye:aU:=mkC yg.1
def w9:=cv (a:=lp j9.1 2)
def w7:aU:=mkC w9.1
def wk:=cv (a:=lp j9.1 3)
def wj:aU:=mkC wk.1
theorem Ii:OkF 81 oF:=okq func81
def Tr:=gV f82 [[2,3,5,6,9,10],[2,3,5,6,10,12],[10,13,14],[10,13,26],[10,11],[10,11]]
def E5:=qF 29 Tr.1 [.cell 10 (.some 17),.tmp 11]
theorem a0m:OkF 82 E5:=okq func82
def BC:=gV f83 [[1,2,3],[1,2,3,7],[1,2,3,7],[2,3,7],[7],[6]]
def pT:=qF 25 BC.1 [.tmp 6]
theorem JA:OkF 83 pT:=okq func83
def u5:=gV f84 [[1,2],[1,2,5],[1,5,10,11,12],[1,5,10,11,12,13],[1,5,6,7,10,11,12],[1,5,6,10,11,12,19],[1,5,10,11,12],[1,5,10,11,12],[4]] [(.close [5003,7005,7006])]
def od:=qF 29 u5.1 [.tmp 4]
def xY:=cv (a:=lp u5.1 0)
def xJ:aU:=mkC xY.1
theorem Ie:OkF 84 od:=okq func84
def tV:=gV f85 [[1],[1,3],[1,3,12,13,14],[1,3,12,13,14,15],[1,3,5,12,13,14],[1,3,12,13,14],[1,3,12,13,14],[1,3],[1,3,34,35,36],[1,3,34,35,36,37],[1,3,7,34,35,36],[1,3,34,35,36],[1,3,34,35,36],[1,3],[2]] [(.close [6002,6003]),(.close [12002,12003])]
def tC:=qF 56 tV.1 [.tmp 2]
def Br:=cv (a:=lp tV.1 0)
def Bs:aU:=mkC Br.1
def Bx:=cv (a:=lp tV.1 1)
def BX:aU:=mkC Bx.1
theorem Nk:OkF 85 tC:=okq func85
def EJ:=gV f86 [[1],[1,23],[2],[1,25,26],[1,25,26,27],[1,4,25,26],[1,25,26,37],[2],[1,25,26],[2]] [(.close [7007])]
def zC:=qF 39 EJ.1 [.tmp 2]
def RW:=cv (a:=lp EJ.1 0)
def b1k:aU:=mkC RW.1
theorem Up:OkF 86 zC:=okq func86
def Iq:=gV f87 [[2,3],[4]]
def xc:=qF 21 Iq.1 [.tmp 4]
theorem Qn:OkF 87 xc:=okq func87
def IS:=gV f88 [[2,4,5,7],[2,4,5,7,9],[8],[2,4,7,13],[8],[7,32],[8],[38],[8],[8]]
def xm:=qF 42 IS.1 [.tmp 8]
theorem Rq:OkF 88 xm:=okq func88
def IL:=gV f89 [[0,4,5,6],[0,4,5,6,16],[6,7],[4,5,6,8],[4,5,6,8,9],[4,5,6,8,9,10],[4,5,6,8,9],[4,5,6,8,9],[4,5,6,8,9],[4,5,6,9],[6,7]]
def xn:=qF 64 IL.1 [.cell 6 (.some 17),.tmp 7]
theorem Ts:OkF 89 xn:=okq func89
def Mm:=gV f90 [[2,5,6,8,9],[2,5,6,8,9,18],[10,11],[2,5,6,8,12],[13],[10,11]]
def z8:=qF 29 Mm.1 [.tmp 10,.tmp 11]
theorem U1:OkF 90 z8:=okq func90
def u6:=gV f91 [[0,2],[0,2,3],[0,2,3,4],[0,2,3,4,5],[0,2,3,4,5,14],[0,2,3,4,5,6],[0,2,3,4,5,6,26],[0,2,3,4,5,6],[0,2,3,4,5,6,38],[0,2,3,4,5,6],[0,2,3,4,5,6,42],[0,2,3,4,5,6,42,43],[0,2,3,4,5,6],[0,2,3,4,5,6],[0,2,3,4,5,6,60],[0,2,3,4,5,6],[0,2,3,4,5,6,64],[0,2,3,4,5,6],[0,2,3,4,5,6,72],[0,2,3,4,5,6],[0,2,3,4,5],[0,2,3,4,5],[2]] [(.close [7001,7004,8004,9001,10005,12002,14002,15002,16005,19002,21001,21002,21004,22003,22004])]
def oE:=qF 88 u6.1 [.cell 2 (.some 1)]
def xQ:=cv (a:=lp u6.1 0)
def ym:aU:=mkC xQ.1
theorem I5:OkF 91 oE:=okq func91
def pP:=gV f92 [[0,3],[0,3,6],[0,3,6,7],[0,3,6,7,15],[0,3,6,7,8],[0,3,6,7,9],[0,3,6,7,9,26],[0,3,6,7,9,10],[0,3,6,7,9,10,32],[0,3,6,7,9,10],[0,3,6,7,9],[0,3,6,7,9],[0,3,6,7],[4,5]] [(.close [6000,7002,10001,11001,12001,13007,13008]),(.close [10001,11001,12001,13007,13008])]
def qf:=qF 51 pP.1 [.tmp 4,.tmp 5]
def Ij:=cv (a:=lp pP.1 0)
def a1J:aU:=mkC Ij.1
def sJ:=cv (a:=lp pP.1 1)
def nh:aU:=mkC sJ.1
theorem Ju:OkF 92 qf:=okq func92
def B0:=gV f93 [[0,2],[2]]
def oM:=qF 12 B0.1 [.cell 2 (.some 3)]
theorem HV:OkF 93 oM:=okq func93
def vL:=gV f94 [[0,2],[0,2,3],[0,2,3,11],[0,2,3],[0,2,3,4],[0,2,3,4,21],[0,2,3,4,25],[0,2,3,4],[0,2,3,4],[0,2,3,4],[2]] [(.close [8001,9002,9003,9004,10001])]
def qw:=qF 38 vL.1 [.cell 2 (.some 4)]
def sT:=cv (a:=lp vL.1 0)
def n8:aU:=mkC sT.1
theorem Kk:OkF 94 qw:=okq func94
def R2:=gV f96 [[0],[2]]
def E8:=qF 11 R2.1 [.tmp 2]
theorem Zh:OkF 96 E8:=okq func96
def RZ:=gV f97 [[0,2],[2]]
def DA:=qF 8 RZ.1 [.cell 2 (.some 2)]
theorem Zz:OkF 97 DA:=okq func97
def OK:=gV f98 [[0,1],[0,5],[5],[4]]
def BP:=qF 16 OK.1 [.tmp 4]
theorem X8:OkF 98 BP:=okq func98
def Ok:=gV f99 [[0],[2]]
def C7:=qF 5 Ok.1 [.tmp 2]
theorem W5:OkF 99 C7:=okq func99
def WS:=gV f101 [[0,1,4],[0,1,4,5],[1,4,5,9,10,11],[1,4,5,9,10,11,12],[1,4,5,6,7,9,10,11],[1,4,5,9,10,11],[1,4,5,9,10,11],[4]] [(.close [5003,6006,6007])]
def PI:=qF 26 WS.1 [.cell 4 (.some 2)]
def Vh:=cv (a:=lp WS.1 0)
def UN:aU:=mkC Vh.1
theorem b2G:OkF 101 PI:=okq func101
def BT:=gV f102 [[0],[0,3],[3,12,13,14],[3,12,13,14,15],[3,5,12,13,14],[3,5,6,7,12,13,14],[5,6,7,12,13,14,20,21,22],[5,6,7,12,13,14,20,21,22,23],[5,6,7,9,12,13,14,20,21,22],[5,6,7,12,13,14,20,21,22],[5,6,7,12,13,14,20,21,22],[3,12,13,14],[3,12,13,14],[2]] [(.close [5002,6000,6001,9002,10002,10004,10005,10006,10007,10011,10012,10013,12002,2001]),(.close [9002,10002,10004,10005,10006,10007,10011,10012,10013])]
def Be:=qF 46 BT.1 [.tmp 2]
def Ip:=cv (a:=lp BT.1 0)
def Jh:aU:=mkC Ip.1
def Jm:=cv (a:=lp BT.1 1)
def Iw:aU:=mkC Jm.1
theorem W7:OkF 102 Be:=okq func102
def QI:=gV f110 [[1,2],[1,2],[2]]
def Dy:=qF 9 QI.1 [.cell 2 (.some 4)]
theorem Zn:OkF 110 Dy:=okq func110
def BZ:=gV f112 [[1,2],[1,2],[2]]
def qy:=qF 8 BZ.1 [.cell 2 (.some 4)]
theorem Ke:OkF 112 qy:=okq func112
def wF:=gV f113 [[1,2,6,9,10,11],[1,2,6,9,10,11,13],[1,2,6,10,11,13,14,15,16],[1,2,6,10,11,13,14,15,16,34],[12],[1,6,10,11,13,14,38],[12],[1,6,10,11,13,14],[1,6,10,11,13,14,60],[12],[1,6,10,11,13,14],[6,10,11,14,17,18],[11,14,17,18,82,83,84],[11,14,17,18,82,83,84,85],[11,14,17,18,19,20,82,83,84],[11,14,17,18,21,82,83,84],[11,14,17,18,21,82,83,84,101],[12],[11,14,17,18,82,83,84],[12]] [(.close [16010])]
def rT:=qF 104 wF.1 [.tmp 12]
def yV:=cv (a:=lp wF.1 0)
def yW:aU:=mkC yV.1
theorem Lg:OkF 113 rT:=okq func113
def V9:=gV f115 [[0,1,2],[6]]
def Hw:=qF 15 V9.1 [.tmp 6]
theorem a2c:OkF 115 Hw:=okq func115
def Jo:=gV f117 [[0,1,5],[6]]
def xB:=qF 17 Jo.1 [.tmp 6]
theorem Sy:OkF 117 xB:=okq func117
def Gs:=gV f118 [[1,2],[4]]
def vR:=qF 9 Gs.1 [.tmp 4]
theorem Pg:OkF 118 vR:=okq func118
def S5:=gV f119 [[0],[2]]
def DT:=qF 6 S5.1 [.tmp 2]
theorem a0z:OkF 119 DT:=okq func119
def F5:=gV f120 [[1,2],[4]]
def tN:=qF 9 F5.1 [.tmp 4]
theorem N8:OkF 120 tN:=okq func120
def Fq:=gV f121 [[1,2,3],[4]]
def u2:=qF 9 Fq.1 [.tmp 4]
theorem NI:OkF 121 u2:=okq func121
def Gn:=gV f122 [[1,3,5],[1,3,5,27],[6],[1,5,29,30,31],[1,5,29,30,31,32],[1,5,7,8,29,30,31],[1,5,29,30,31,50],[6],[1,5,29,30,31],[6]] [(.close [7012])]
def Bp:=qF 52 Gn.1 [.tmp 6]
def Ix:=cv (a:=lp Gn.1 0)
def Jj:aU:=mkC Ix.1
theorem WX:OkF 122 Bp:=okq func122
def K2:=gV f125 [[1,2,3],[1,2,3,7],[1,2,3,7,8],[1,2,3,7,8,9],[1,2,3,7,8,9,10],[1,2,3,7,8,9,10,18],[1,2,3,7,8,9,10,11],[1,2,3,7,8,9,10,11],[1,2,3,7,8,9,10,11,27],[1,2,3,7,8,9,10,11,27,33],[1,2,3,7,8,9,10,12],[1,2,3,7,8,9,10,12],[1,2,3,7,8,9,10,11,27,41],[1,2,3,7,8,9,10,12],[1,2,3,7,8,9,10,12],[1,2,3,7,8,9,10,11,27,49],[1,2,3,7,8,9,10,12],[1,2,3,7,8,9,10,11,27,53],[1,2,3,7,8,9,10,12],[1,2,3,7,8,9,10,11,27,66],[1,2,3,7,8,9,10,12],[1,2,3,7,8,9,10,11,79],[1,2,3,7,8,9,10,12],[1,2,3,7,8,9,10,12],[1,2,3,7,8,9,10],[1,2,3,7,8,9,10],[6]] [(.close [8005,21010,23010,25010,26002,26003])]
def Dx:=qF 97 K2.1 [.tmp 6]
def Mw:=cv (a:=lp K2.1 0)
def Ly:aU:=mkC Mw.1
theorem Zf:OkF 125 Dx:=okq func125
def GY:=gV f126 [[1,2],[1,2,5],[1,2,5,11],[1,2,5,6],[1,2,5,47],[4],[1,2,5],[4]] [(.close [5005])]
def BN:=qF 48 GY.1 [.tmp 4]
def IW:=cv (a:=lp GY.1 0)
def IR:aU:=mkC IW.1
theorem XQ:OkF 126 BN:=okq func126
def Sx:=gV f127 [[1,2],[1,2,5,6,7],[1,2,5,6,7,18],[1,2,5,6,7,18,19],[2,5,6,7],[1,2,5,6,7,18,24],[1,2,5,6,7,18,24],[1,2,5,6,7,18,24],[1,2,5,6,7,18,24],[2,5,6,7],[1,2,5,6,7,39],[2,5,6,7],[4]]
def E0:=qF 58 Sx.1 [.tmp 4]
theorem Zo:OkF 127 E0:=okq func127
def sU:=gV f128 [[1,2],[1,2,5],[1,5,9,10,11],[1,5,9,10,11,12],[1,5,7,9,10,11],[1,5,9,10,11,18],[1,5,9,10,11],[1,5,9,10,11],[4]] [(.close [5002])]
def na:=qF 23 sU.1 [.tmp 4]
def wh:=cv (a:=lp sU.1 0)
def wm:aU:=mkC wh.1
theorem Gl:OkF 128 na:=okq func128
def P1:=gV f131 [[1,2],[4]]
def Bz:=qF 9 P1.1 [.tmp 4]
theorem Y7:OkF 131 Bz:=okq func131
def O5:=gV f132 [[0],[2]]
def C5:=qF 5 O5.1 [.tmp 2]
theorem WP:OkF 132 C5:=okq func132
def Fo:=gV f133 [[1],[2]]
def tK:=qF 7 Fo.1 [.tmp 2]
theorem NL:OkF 133 tK:=okq func133
def a5p:=gV f164 [[0,1],[4]]
def Q2:=qF 9 a5p.1 [.tmp 4]
theorem b4P:OkF 164 Q2:=okq func164
def wz:=gV f165 [[0],[0,6],[0,6,7],[2],[0,11],[2],[0,3],[0,3,4],[0,3,4,17],[0,3,4],[0,3,4],[2]] [(.close [11003])]
def sk:=qF 27 wz.1 [.tmp 2]
def A8:=cv (a:=lp wz.1 0)
def Aa:aU:=mkC A8.1
theorem M6:OkF 165 sk:=okq func165
def lv:=gV f166 [[0,1],[4]]
def eP:=qF 9 lv.1 [.tmp 4]
theorem ta:OkF 166 eP:=okq func166
def Fs:=gV f167 [[1,2],[3]]
def tZ:=qF 8 Fs.1 [.tmp 3]
theorem Nx:OkF 167 tZ:=okq func167
def SU:=gV f168 [[0],[2]]
def Ec:=qF 7 SU.1 [.tmp 2]
theorem a1G:OkF 168 Ec:=okq func168
def GB:=gV f169 [[0,2],[0,2,4],[2],[2]]
def vi:=qF 13 GB.1 [.cell 2 (.some 2)]
theorem Pv:OkF 169 vi:=okq func169
def a4A:=gV f170 [[0,1],[4]]
def PN:=qF 10 a4A.1 [.tmp 4]
theorem b2A:OkF 170 PN:=okq func170
def a4P:=gV f171 [[0,1],[4]]
def Q0:=qF 9 a4P.1 [.tmp 4]
theorem b4T:OkF 171 Q0:=okq func171
def He:=gV f172 [[0,2,5,7],[0,2,5,7,8],[0,2,5,7,8,11],[0,2,5,7,8,11,12],[],[0,2,5,7,8,11,21],[],[0,2,5,7,8,11,35],[],[0,2,5,7,8,11,49],[],[0,2,5,7,8,11,63],[0,2,5,8],[],[0,2,5,7,8,79],[0,2,5,8],[]]
def vQ:=qF 100 He.1 []
theorem Pq:OkF 172 vQ:=okq func172
def wK:=gV f174 [[0,3,4,6,7,10],[0,3,4,6,7,10,12],[0,4,6,7,10,12],[0,4,6,7,10,12,13],[0,4,6,7,10,12,13],[0,4,6,7,10,12,13,14],[0,4,6,7,10,12,13,14,59,60],[0,4,6,7,10,12,13,14,59,60,61],[0,4,6,7,10,12,13,14,16,59,60],[0,4,6,7,10,12,13,14,59,60],[0,4,6,7,10,12,13,14,59,60],[0,4,6,7,10,12,13,17,18,19],[0,4,6,7,10,12,13,18],[0,4,6,7,10,12,13,18],[0,4,6,7,10,12,13,18,20],[0,6,7,10,12,13,21,22],[0,7,10,12,13,21,24],[0,7,10,12,13,24],[0,7,10,12,13,24],[10,13,25,26],[10,13,26],[10,11]] [(.close [10005,10006,10007,10008])]
def sh:=qF 149 wK.1 [.cell 10 (.some 17),.tmp 11]
def JP:=cv (a:=lp wK.1 0)
def a38:aU:=mkC JP.1
theorem Kp:OkF 174 sh:=okq func174
def E3:=gV f175 [[0],[0,3],[3,7,8,9],[3,7,8,9,10],[3,5,7,8,9],[3,7,8,9],[3,7,8,9],[2]] [(.close [5002,6003,6006])]
def zm:=qF 22 E3.1 [.tmp 2]
def GN:=cv (a:=lp E3.1 0)
def Gw:aU:=mkC GN.1
theorem U0:OkF 175 zm:=okq func175
def ir:=gV f176 [[1],[1,3],[1,3,16,17,18],[1,3,16,17,18,19],[1,3,5,16,17,18],[1,3,16,17,18],[1,3,16,17,18],[1,3,28,29,30],[1,3,28,29,30,31],[1,3,7,28,29,30],[1,3,28,29,30],[1,3,28,29,30],[1,3],[3,48,49,50],[3,48,49,50,51],[3,9,48,49,50],[3,9,48,49,50],[3,48,49,50,60,61,62],[3,48,49,50,60,61,62,63],[3,11,48,49,50,60,61,62],[3,48,49,50,60,61,62,66,67,68],[3,48,49,50,60,61,62,66,67,68,69],[3,13,48,49,50,60,61,62,66,67,68],[3,48,49,50,60,61,62,66,67,68],[3,48,49,50,60,61,62,66,67,68],[3,48,49,50,60,61,62],[3,48,49,50],[2]] [(.close [6002,6003]),(.close [11002]),(.close [16002,17003,17004,24002]),(.close [24002]),(.close [24002])]
def qa:=qF 79 ir.1 [.tmp 2]
def yT:=cv (a:=lp ir.1 0)
def yP:aU:=mkC yT.1
def yS:=cv (a:=lp ir.1 1)
def yY:aU:=mkC yS.1
def xH:=cv (a:=lp ir.1 2)
def xI:aU:=mkC xH.1
def yn:=cv (a:=lp ir.1 3)
def yo:aU:=mkC yn.1
def xW:=cv (a:=lp ir.1 4)
def xX:aU:=mkC xW.1
theorem Kj:OkF 176 qa:=okq func176
def yX:=gV f177 [[1,2],[2]]
def nj:=qF 10 yX.1 [.cell 2 (.some 3)]
theorem G6:OkF 177 nj:=okq func177
def DU:=gV f178 [[0,1,2],[0,1,2,9,10,11],[0,1,2,9,10,11,12],[0,1,2,7,8,9,10,11],[0,1,2,9,10,11,49],[6],[0,1,2,9,10,11],[6]] [(.close [4003,5004,5011,5017,5030])]
def zt:=qF 54 DU.1 [.tmp 6]
def FH:=cv (a:=lp DU.1 0)
def GU:aU:=mkC FH.1
theorem Uo:OkF 178 zt:=okq func178
def yL:=gV f179 [[0,3],[0,3,5],[0,3,5,7,8],[0,3,5,7,8,9],[0,3,5,6,7,8],[0,3,5,7,8],[0,3,5,7,8],[4]] [(.close [])]
def tO:=qF 38 yL.1 [.tmp 4]
def Bm:=cv (a:=lp yL.1 0)
def Bb:aU:=mkC Bm.1
theorem Nm:OkF 179 tO:=okq func179
def yO:=gV f180 [[0],[2]]
def nr:=qF 6 yO.1 [.tmp 2]
theorem H4:OkF 180 nr:=okq func180
def pE:=gV f181 [[0,1,2],[0,1,2,7],[0,2,7,9,10],[0,2,7,9,10,11],[0,2,7,9,10],[0,2,7,9,10],[6]] [(.close [5003,5004,5005])]
def lK:=qF 20 pE.1 [.tmp 6]
def uC:=cv (a:=lp pE.1 0)
def ul:aU:=mkC uC.1
theorem Ew:OkF 181 lK:=okq func181
def yU:=gV f182 [[0,1],[5],[4]]
def ng:=qF 16 yU.1 [.tmp 4]
theorem Hf:OkF 182 ng:=okq func182
def fR:=gV f183 [[0,1,5,6],[0,1,5,6,7],[0,1,5,6,7,16,17],[0,1,5,6,7,16,17,18],[0,1,5,6,7,16,17],[0,1,5,6,7,16,17],[0,1,5,6,7],[0,1,5,6,7],[0,1,5,6,7,37,38],[0,1,5,6,7,37,38,39],[0,1,5,6,7,8,37,38],[0,1,5,6,7,8,37,38,45,46],[0,1,5,6,7,8,37,38,45,46,47],[0,1,5,6,7,8,9,37,38,45,46],[0,1,5,6,7,8,9,10,37,38,45,46],[0,1,5,6,7,8,10,37,38,45,46,56,57],[0,1,5,6,7,8,10,37,38,45,46,56,57,58],[0,1,5,6,7,8,10,37,38,45,46,56,57],[0,1,5,6,7,8,10,37,38,45,46,56,57],[0,1,5,6,7,8,37,38,45,46],[0,1,5,6,7,8,37,38,45,46],[0,1,5,6,7,37,38],[0,1,5,6,7,37,38],[6]] [(.both (.close [5003,5004,5005]) (.nilCell 2004 1 4900 1)),(.both (.close [11003,11005,15000,18002,18003,18004,20003,20004,22003,22004,13900]) (.nilCell 2004 5 10900 2)),(.both (.close [15000,18002,18003,18004,20003,20004]) (.nilCell 11005 1 13900 1)),(.close [18002,18003,18004])]
def ku:=qF 80 fR.1 [.cell 6 (.some 6)]
def tx:=cv (a:=lp fR.1 0)
def tv:aU:=mkC tx.1
def tj:=cv (a:=lp fR.1 1)
def tp:aU:=mkC tj.1
def sE:=cv (a:=lp fR.1 2)
def sD:aU:=mkC sE.1
def sB:=cv (a:=lp fR.1 3)
def sx:aU:=mkC sB.1
theorem D9:OkF 183 ku:=okq func183
def C8:=gV f184 [[0,3,6,7,9],[0,3,6,7,9],[0,3,6,7,9],[0,3,6,7,9,11],[0,3,6,7,9,11,12,13,14],[0,3,6,7,9,11,12,13,14,44],[10],[0,3,6,7,9,12,13,48],[10],[0,3,6,7,9,12,13],[0,3,6,7,9,12,13,15],[0,3,6,7,9,12,13,14,15,16],[0,3,6,7,9,12,13,14,15,16,91],[10],[0,3,6,7,9,12,13,15,16,17,18],[0,3,6,7,9,13,17,18,19],[0,7,9,17,124],[10],[0,7,9,17],[10]]
def pZ:=qF 140 C8.1 [.tmp 10]
theorem Jw:OkF 184 pZ:=okq func184
def Fb:=gV f185 [[0,1],[0,1,9],[4],[0,1,11],[4],[0,1,5],[0,1,5,6],[1,5,6,7],[4]]
def tJ:=qF 31 Fb.1 [.tmp 4]
theorem NK:OkF 185 tJ:=okq func185
def Bu:=gV f186 [[0,1],[4]]
def pX:=qF 11 Bu.1 [.tmp 4]
theorem JZ:OkF 186 pX:=okq func186
def EQ:=gV f187 [[1,2],[1,2,5],[1,2,5,6],[1,2,5,6,11],[1,2,5,6],[1,2,5,6],[4]] [(.close [6009])]
def zz:=qF 26 EQ.1 [.tmp 4]
def GA:=cv (a:=lp EQ.1 0)
def GW:aU:=mkC GA.1
theorem TX:OkF 187 zz:=okq func187
def O0:=gV f188 [[0],[0,3],[2],[6],[2],[2]]
def Bo:=qF 9 O0.1 [.tmp 2]
theorem VO:OkF 188 Bo:=okq func188
def S6:=gV f189 [[0,1,4],[4]]
def EO:=qF 10 S6.1 [.cell 4 (.some 4)]
theorem a0I:OkF 189 EO:=okq func189
def Fl:=gV f190 [[0,1],[0,1,7],[4],[4]]
def tX:=qF 15 Fl.1 [.tmp 4]
theorem Nz:OkF 190 tX:=okq func190
def J5:=gV f191 [[1,2,4],[2,4],[2,4],[4]]
def xq:=qF 19 J5.1 [.cell 4 (.some 4)]
theorem Qf:OkF 191 xq:=okq func191
def Ob:=gV f192 [[1,2,3],[1,2,3,9],[1,2,3,4],[1,2,3,4],[2,3],[1,2,3,5],[1,2,3,5],[2,3]]
def C4:=qF 47 Ob.1 [.cell 2 (.some 4),.cell 3 (.some 2)]
theorem XZ:OkF 192 C4:=okq func192
def Ap:=gV f194 [[0],[0,3],[3,10,11,12],[3,10,11,12,13],[3,5,10,11,12],[3,10,11,12],[3,10,11,12],[3,6],[3,6,27],[3,6,7],[3,6,7,8],[3,6,7,8,32],[3,6,7,8],[3,6,7,8],[3,6],[2]] [(.close [6002,6003,6004,6005]),(.close [10000,14010,14011,14012,14013,15002,15003]),(.close [14010,14011,14012,14013])] [(7,.close [2000]),(14,.close [10000])]
def E4:=qF 55 Ap.1 [.tmp 2]
def KS:=cv (a:=lp Ap.1 0)
def M9:aU:=mkC KS.1
def Mk:=cv (a:=lp Ap.1 1)
def Kz:aU:=mkC Mk.1
def Ji:=cv (a:=lp Ap.1 2)
def IV:aU:=mkC Ji.1
theorem ZI:OkF 194 E4:=okq func194
def DX:=gV f195 [[0],[0,3,4],[0,3,4,10,11],[0,3,4,10,11,12],[0,3,4,5,10,11],[0,3,4,10,11],[0,3,4,10,11],[2]] [(.close [6011,6012,6014,6015])]
def zn:=qF 32 DX.1 [.tmp 2]
def FY:=cv (a:=lp DX.1 0)
def Gc:aU:=mkC FY.1
theorem Uw:OkF 195 zn:=okq func195
def a5o:=gV f196 [[0],[2]]
def PP:=qF 9 a5o.1 [.tmp 2]
theorem b2M:OkF 196 PP:=okq func196
def EI:=gV f197 [[0,1],[1,5],[1,5,6],[1,5,6,14],[1,5,6,18,19],[1,5,6,18,19,20],[1,5,6,7,18,19],[1,5,6,7,18,19,25],[1,5,6,18,19],[1,5,6,18,19],[1,5,6],[4]] [(.close [10013]),(.close [10013])]
def ET:=qF 43 EI.1 [.tmp 4]
def Mv:=cv (a:=lp EI.1 0)
def KY:aU:=mkC Mv.1
def LY:=cv (a:=lp EI.1 1)
def Mh:aU:=mkC LY.1
theorem a0e:OkF 197 ET:=okq func197
def J6:=gV f198 [[2,3,4],[4]]
def wY:=qF 16 J6.1 [.cell 4 (.some 2)]
theorem Ss:OkF 198 wY:=okq func198
def LK:=gV f199 [[2,3,4],[4]]
def zx:=qF 16 LK.1 [.cell 4 (.some 2)]
theorem TL:OkF 199 zx:=okq func199
def IM:=gV f200 [[2,3,4],[4]]
def xp:=qF 29 IM.1 [.cell 4 (.some 2)]
theorem Ta:OkF 200 xp:=okq func200
def a5h:=gV f201 [[0],[0]]
def PF:=qF 2 a5h.1 [.cell 0 (.some 2)]
theorem b42:OkF 201 PF:=okq func201
def Cc:=gV f213 [[0,1],[0,1,5],[0,5,6],[0,5,6,11],[0,5,6],[0,5,6],[4]] [(.close [6007,6008])]
def xh:=qF 24 Cc.1 [.tmp 4]
def Fj:=cv (a:=lp Cc.1 0)
def EY:aU:=mkC Fj.1
theorem SW:OkF 213 xh:=okq func213
def CE:aU:=(.seq (.seq (qS 3000 [qm 12 3,qn 13 12,qB 14 .rem 13 136,qB 15 .neq 14 0] [3,15]) (.cond (.t 15) .skip (.exit 0))) (.block 1 (qS 4000 [qm 16 3,qg 17 (.buildSlice 1 [(.int .u8 0)] 1 [(0,(.c (.int .u8 0)))]),qg 18 (.append 1 1 [(.int .u8 0)] (.t 16) (.t 17)),qm 3 18] [3])))
def AA:aU:=(.seq (.seq (qS 12000 [qm 41 7,qB 42 .lss 41 25] [3,4,5,6,7,42]) (.cond (.t 42) .skip (.exit 4))) (.seq (.block 5 (.drawn 14000 [qm 45 7,qX 46 25 1 4 45,ql 47 46,qm 48 7,qX 49 25 1 6 48,ql 50 49,qb 51 .xor 47 50,qX 52 25 1 4 45,qu 1 52 51] [[],[0],[1,0],[],[3],[4,3],[2,1,0,5,4,3],[0,1,2,3,4,5,6],[7,0,1,2,3,4,5,6]] [3,4,5,6,7])) (qS 13000 [qm 43 7,qB 44 .add 43 1,qm 7 44] [3,4,5,6,7])))
def Cz:aU:=(.seq (.seq (qS 8000 [qm 28 5,qm 29 3,qn 30 29,qb 31 .lss 28 30] [3,4,5,31]) (.cond (.t 31) .skip (.exit 2))) (.seq (.block 3 (.seq (qS 10000 [qm 34 3,qm 35 5,qm 36 5,qB 37 .add 36 136,qg 38 (.slice 1 (.t 34) (.some (.t 35)) (.some (.t 37)) .none),qg 39 (.toStr (.t 38)),qc 40 321 [39],qg 6 (.alloc (zar .u64 25)),qu 25 6 40] [3,4,5,6]) (.seq (.seq (qS 11000 [qi 7 0] [3,4,5,6,7]) (.block 4 (.loop (tl (.close []) AA)))) (qS 15000 [qL 53 25 4,qc 54 322 [53],qu 25 4 54] [3,4,5])))) (qS 9000 [qm 32 5,qB 33 .add 32 136,qm 5 33] [3,4,5])))
def OR:aU:=(.seq (qS 1000 [qg 2 (.mv (.c (.string ⟨⟨[]⟩⟩)))] [0]) (.seq (qS 2000 [qm 8 0,qg 9 (.toBytes (.t 8)),qg 10 (.buildSlice 1 [(.int .u8 0)] 1 [(0,(.c (.int .u8 1)))]),qg 11 (.append 1 1 [(.int .u8 0)] (.t 9) (.t 10)),qm 3 11] [3]) (.seq (.block 0 (.loop (tl (.close [4001,4002]) CE))) (.seq (qS 5000 [qm 19 3,qm 20 3,qn 21 20,qB 22 .sub 21 1,qx 23 1 19 22,ql 24 23,qg 25 (.bin .or (.t 24) (.c (.int .u8 128))),qx 26 1 19 22,qu 1 26 25] [3]) (.seq (qS 6000 [qg 27 (.build (zar .u64 25) []),qg 4 (.alloc (zar .u64 25)),qu 25 4 27] [3,4]) (.seq (.seq (qS 7000 [qi 5 0] [3,4,5]) (.block 2 (.loop (tl (.close [10006,10007,15001,2001]) Cz)))) (.seq (qS 16000 [qL 55 25 4,qg 56 (.call 323 [(.t 55),(qI 32)]),qm 2 56] [2]) .ret)))))))
def BO:j4:=⟨57,OR,[.tmp 2],.false,.false⟩
theorem XD:OkF 218 BO:=okq func218
def mI:=gV f219 [[0,1,3,4,7,11],[0,1,3,4,7,11,13],[0,1,4,7,11,13,18,19,20],[0,1,4,7,11,13,18,19,20,21],[0,1,4,7,11,13,14,15,18,19,20],[0,1,4,7,11,13,14,15,18,19,20,25],[10,11,12],[0,1,4,7,11,13,14,15,18,19,20,33],[10,11,12],[0,1,4,7,11,13,14,15,18,19,20],[0,1,4,7,11,13,14,15,16,18,19,20],[0,1,4,7,11,13,14,18,19,20],[0,1,4,7,11,13,18,19,20],[0,1,4,7,11,13,18,19,20],[10,11,12]] [(.close [6003,8006,10002,11001,11002,12002,12005,12006,13002])]
def hS:=qF 62 mI.1 [.tmp 10,.cell 11 (.some 2),.tmp 12]
def oA:=cv (a:=lp mI.1 0)
def kn:aU:=mkC oA.1
theorem FB:OkF 219 hS:=okq func219
def Ax:=gV f220 [[0,2,3,8],[]]
def oJ:=qF 17 Ax.1 []
theorem Im:OkF 220 oJ:=okq func220
end Go.AI.Fn
