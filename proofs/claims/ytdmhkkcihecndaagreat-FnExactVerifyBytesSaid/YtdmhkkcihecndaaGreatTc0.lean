/- Codes. -/
import Derived.Test.YtdmhkkcihecndaaGreatTb0
set_option linter.unusedVariables false
set_option maxRecDepth 100000
set_option maxHeartbeats 2000000
namespace Go.AI.Fn
open Proofs.Tryz
def o5:=cv (a:=gT f6 [[2,3,5,6,9],[2,3,5,6,9,22],[10],[2,3,5,6,9,25],[10],[2,3,5,6,9,11],[2,3,5,6,9,11],[2,3,5,6,9,11,30],[10],[2,3,5,6,9,11],[2,3,5,6,9,35],[10],[2,3,5,6,9,12,13],[2,3,5,6,9,12,13,14],[2,3,5,6,9,12,13,14,15],[2,3,5,6,9,12,13,14,15,16],[2,3,5,6,9,12,13,14,15,16,17],[2,3,5,9,12,13,14,15,16,17,18,19],[2,3,5,9,14,15,16,17,75],[10],[2,3,9,15,16,17,80],[10],[3,9,16,17,85],[10],[9,17,90],[10],[95],[10],[10]])
def a_w_FnExactVerifyBytes:ae:=⟨96,mkC o5.1,[.tmp 10],.false,.false⟩
theorem xD:OkF 6 a_w_FnExactVerifyBytes:=okq func6
def EQ:=cv (a:=gT f25 [[3,4,5],[6]])
def qy:ae:=⟨56,mkC EQ.1,[.tmp 6],.false,.false⟩
theorem OV:OkF 25 qy:=okq func25
def EN:=cv (a:=gT f26 [[1],[2]])
def pJ:ae:=⟨16,mkC EN.1,[.tmp 2],.false,.false⟩
theorem PT:OkF 26 pJ:=okq func26
def jH:=cv (a:=gT f28 [[1,3,5],[1,3,5,54],[6],[1,3,5,7],[1,3,5,7,57],[1,3,5,7,89],[6],[1,3,5,7],[1,3,5,8],[1,3,5,8,94],[1,3,5,8,9],[1,3,5,8,9,120],[6],[1,3,5,8,9,10],[1,3,5,8,9,10,123],[1,3,5,8,9,10,139],[6],[1,3,5,8,9,10,11],[1,3,5,8,9,10,11,147],[1,3,5,8,9,10,11,159],[6],[1,3,5,8,9,10,11],[1,3,5,8,9,10],[1,3,5,8],[6]] [(.close [7013]),(.close [12005,13009]),(.close []),(.close [])])
def pT:ae:=⟨160,mkC jH.1,[.tmp 6],.false,.false⟩
def A7:=cv (a:=lp jH.1 0)
def Aq:ai:=mkC A7.1
def Ad:=cv (a:=lp jH.1 1)
def B3:ai:=mkC Ad.1
def xq:=cv (a:=lp jH.1 2)
def yo:ai:=mkC xq.1
def yf:=cv (a:=lp jH.1 3)
def xH:ai:=mkC yf.1
theorem Nc:OkF 28 pT:=okq func28
def J5:=cv (a:=gT f29 [[1,2],[1,2],[1,2,10],[4],[1,2],[1,2,16],[4],[1],[1,22],[4],[4]])
def sI:ae:=⟨24,mkC J5.1,[.tmp 4],.false,.false⟩
theorem Rz:OkF 29 sI:=okq func29
def IZ:=cv (a:=gT f31 [[1,2],[1,2],[1,2,10],[4],[1],[1,17],[4],[4]])
def tk:ae:=⟨19,mkC IZ.1,[.tmp 4],.false,.false⟩
theorem R6:OkF 31 tk:=okq func31
def JF:=cv (a:=gT f33 [[1,2],[1,2,3],[1,2,3],[1,2,3],[1,2,3],[1,2,3],[1,2,3],[2,3],[2]])
def tg:ae:=⟨26,mkC JF.1,[.cell 2 (.some 6)],.false,.false⟩
theorem RA:OkF 33 tg:=okq func33
def Ge:=cv (a:=gT f34 [[1,2],[1,2,3],[1,2,3],[1,2,3],[2,3],[2]])
def qJ:ae:=⟨14,mkC Ge.1,[.cell 2 (.some 3)],.false,.false⟩
theorem OF:OkF 34 qJ:=okq func34
def Ha:=cv (a:=gT f35 [[0],[0,3],[0,3,4],[0,3,4,11],[0,3,4],[0,3,4],[2]] [(.close [])])
def z7:ae:=⟨22,mkC Ha.1,[.tmp 2],.false,.false⟩
def I4:=cv (a:=lp Ha.1 0)
def HX:ai:=mkC I4.1
theorem YO:OkF 35 z7:=okq func35
def HY:=cv (a:=gT f37 [[1,2],[1,2,3],[1,2,3],[1,2,3],[1,2,3],[2,3],[2]])
def tf:ae:=⟨18,mkC HY.1,[.cell 2 (.some 4)],.false,.false⟩
theorem RN:OkF 37 tf:=okq func37
def Ju:=cv (a:=gT f39 [[2,3],[2,3,9],[4],[2,3,14],[4],[2,3,19],[4],[2,3,25],[4],[2,3,31],[4],[37],[4],[4]])
def tj:ae:=⟨38,mkC Ju.1,[.tmp 4],.false,.false⟩
theorem R2:OkF 39 tj:=okq func39
def Hc:=cv (a:=gT f40 [[0,1],[0,1,10],[4],[0,1,5],[0,1,5,14],[0,1,5,25],[4],[0,1,5],[4]] [(.close [])])
def yZ:ae:=⟨26,mkC Hc.1,[.tmp 4],.false,.false⟩
def IC:=cv (a:=lp Hc.1 0)
def I0:ai:=mkC IC.1
theorem XA:OkF 40 yZ:=okq func40
def I3:=cv (a:=gT f42 [[2,3],[2,3,10],[4],[2,3,15],[4],[2,3,20],[4],[25],[4],[4]])
def sB:ae:=⟨26,mkC I3.1,[.tmp 4],.false,.false⟩
theorem Rb:OkF 42 sB:=okq func42
def AP:=cv (a:=gT f43 [[2,3,5,6,9],[2,3,5,6,9,18],[10,11],[2,3,5,6,9,21],[10,11],[2,3,5,6,9,12],[2,3,5,6,9,12,28],[10,11],[2,5,6,9,13,14],[2,5,6,9,13,39],[10,11],[15],[10,11]])
def n8:ae:=⟨49,mkC AP.1,[.tmp 10,.tmp 11],.false,.false⟩
theorem Kd:OkF 43 n8:=okq func43
def Dw:=cv (a:=gT f44 [[0],[0,3],[0,3,4],[0,3,4,11],[0,3,4],[0,3,4],[2]] [(.close [])])
def vD:ae:=⟨22,mkC Dw.1,[.tmp 2],.false,.false⟩
def Ej:=cv (a:=lp Dw.1 0)
def Gn:ai:=mkC Ej.1
theorem V3:OkF 44 vD:=okq func44
def Bd:=cv (a:=gT f45 [[2,3,5,6,9],[2,3,5,6,9,17],[10,11],[2,3,5,6,9,12],[2,3,5,6,9,12,24],[10,11],[2,5,6,9,13,14],[2,5,6,9,13,34],[10,11],[10,11]])
def mE:ae:=⟨43,mkC Bd.1,[.tmp 10,.tmp 11],.false,.false⟩
theorem JV:OkF 45 mE:=okq func45
def D0:=cv (a:=gT f46 [[0,1],[0,1,10],[4],[0,1,5],[0,1,5,14],[0,1,5,25],[4],[0,1,5],[4]] [(.close [])])
def wh:ae:=⟨26,mkC D0.1,[.tmp 4],.false,.false⟩
def FO:=cv (a:=lp D0.1 0)
def EL:ai:=mkC FO.1
theorem U8:OkF 46 wh:=okq func46
def a85:=cv (a:=gT f62 [[0,1,2],[6]])
def WR:ae:=⟨15,mkC a85.1,[.tmp 6],.false,.false⟩
theorem b34:OkF 62 WR:=okq func62
def Tc:=cv (a:=gT f69 [[0,1,2],[6]])
def DA:ae:=⟨15,mkC Tc.1,[.tmp 6],.false,.false⟩
theorem a2L:OkF 69 DA:=okq func69
def ID:=cv (a:=gT f74 [[1],[2]])
def to:ae:=⟨27,mkC ID.1,[.tmp 2],.false,.false⟩
theorem QB:OkF 74 to:=okq func74
def A5:=cv (a:=gT f75 [[1],[2]])
def mJ:ae:=⟨9,mkC A5.1,[.tmp 2],.false,.false⟩
theorem Kc:OkF 75 mJ:=okq func75
def vN:=cv (a:=gT f76 [[1,2],[1,2],[2]])
def jW:ae:=⟨8,mkC vN.1,[.cell 2 (.some 4)],.false,.false⟩
theorem GP:OkF 76 jW:=okq func76
def F7:=cv (a:=gT f79 [[1],[2]])
def pZ:ae:=⟨16,mkC F7.1,[.tmp 2],.false,.false⟩
theorem Np:OkF 79 pZ:=okq func79
def IG:=cv (a:=gT f80 [[1],[2]])
def sR:ae:=⟨28,mkC IG.1,[.tmp 2],.false,.false⟩
theorem R5:OkF 80 sR:=okq func80
def IV:=cv (a:=gT f81 [[1,2],[4]])
def tr:ae:=⟨17,mkC IV.1,[.tmp 4],.false,.false⟩
theorem RJ:OkF 81 tr:=okq func81
def Xt:=cv (a:=gT f87 [[0,1,4],[0,1,4,5],[1,4,5,9,10,11],[1,4,5,9,10,11,12],[1,4,5,6,7,9,10,11],[1,4,5,9,10,11],[1,4,5,9,10,11],[4]] [(.close [5003,6006,6007])])
def MU:ae:=⟨26,mkC Xt.1,[.cell 4 (.some 2)],.false,.false⟩
def T2:=cv (a:=lp Xt.1 0)
def Te:ai:=mkC T2.1
theorem b1n:OkF 87 MU:=okq func87
def w6:=cv (a:=gT f88 [[0],[0,3],[3,12,13,14],[3,12,13,14,15],[3,5,12,13,14],[3,5,6,7,12,13,14],[5,6,7,12,13,14,20,21,22],[5,6,7,12,13,14,20,21,22,23],[5,6,7,9,12,13,14,20,21,22],[5,6,7,12,13,14,20,21,22],[5,6,7,12,13,14,20,21,22],[3,12,13,14],[3,12,13,14],[2]] [(.close [5002,6000,6001,9002,10002,10004,10005,10006,10007,10011,10012,10013,12002,2001]),(.close [9002,10002,10004,10005,10006,10007,10011,10012,10013])])
def ve:ae:=⟨46,mkC w6.1,[.tmp 2],.false,.false⟩
def EJ:=cv (a:=lp w6.1 0)
def FR:ai:=mkC EJ.1
def F8:=cv (a:=lp w6.1 1)
def G6:ai:=mkC F8.1
theorem VI:OkF 88 ve:=okq func88
def FE:=cv (a:=gT f90 [[1,2],[4]])
def qf:ae:=⟨9,mkC FE.1,[.tmp 4],.false,.false⟩
theorem Py:OkF 90 qf:=okq func90
def TF:=cv (a:=gT f91 [[1],[2]])
def E0:ae:=⟨11,mkC TF.1,[.tmp 2],.false,.false⟩
theorem a1Y:OkF 91 E0:=okq func91
def pb:=cv (a:=gT f92 [[1,2,6,9,10,11],[1,2,6,9,10,11,13],[1,2,6,10,11,13,14,15,16],[1,2,6,10,11,13,14,15,16,34],[12],[1,6,10,11,13,14,38],[12],[1,6,10,11,13,14],[1,6,10,11,13,14,60],[12],[1,6,10,11,13,14],[6,10,11,14,17,18],[11,14,17,18,82,83,84],[11,14,17,18,82,83,84,85],[11,14,17,18,19,20,82,83,84],[11,14,17,18,21,82,83,84],[11,14,17,18,21,82,83,84,101],[12],[11,14,17,18,82,83,84],[12]] [(.close [16010])])
def kZ:ae:=⟨104,mkC pb.1,[.tmp 12],.false,.false⟩
def si:=cv (a:=lp pb.1 0)
def sr:ai:=mkC si.1
theorem IP:OkF 92 kZ:=okq func92
def I8:=cv (a:=gT f94 [[2,3,4],[4]])
def tl:ae:=⟨16,mkC I8.1,[.cell 4 (.some 2)],.false,.false⟩
theorem Sy:OkF 94 tl:=okq func94
def ze:ai:=(.seq (qS 4000 [qb 13 .lss 12 11] [3,10,11,12,13]) (.seq (.cond (.t 13) .skip (.exit 0)) (.seq (.block 1 (.seq (qS 5000 [qx 14 1 10 12,ql 15 14,qm 5 15] [3,5,10,11,12]) (qS 6000 [qm 16 3,qm 17 5,qg 18 (.append 1 1 [(.int .u8 0)] (.t 16) (.t 17)),qm 3 18] [3,10,11,12]))) (qS 7000 [qB 19 .add 12 1,qm 12 19] [3,10,11,12]))))
def zL:ai:=(.seq (.seq (qS 9000 [qm 23 3,qn 24 23,qB 25 .rem 24 136,qB 26 .neq 25 0] [3,26]) (.cond (.t 26) .skip (.exit 2))) (.block 3 (qS 10000 [qm 27 3,qg 28 (.buildSlice 1 [(.int .u8 0)] 1 [(0,(.c (.int .u8 0)))]),qg 29 (.append 1 1 [(.int .u8 0)] (.t 27) (.t 28)),qm 3 29] [3])))
def wt:ai:=(.seq (qS 16000 [qB 48 .lss 47 25] [3,6,46,47,48]) (.seq (.cond (.t 48) .skip (.exit 6)) (.seq (.block 7 (.seq (qS 17000 [qm 49 47,qg 50 (.ixAgg 25 1 .none (.t 46) (.t 47)),qm 7 49,qm 8 50] [3,6,7,8,46,47]) (qS 18000 [qm 51 7,qX 52 25 1 6 51,ql 53 52,qm 54 8,qb 55 .xor 53 54,qX 56 25 1 6 51,qu 1 56 55] [3,6,46,47]))) (qS 19000 [qB 57 .add 47 1,qm 47 57] [3,6,46,47]))))
def wL:ai:=(.seq (.seq (qS 13000 [qm 39 3,qn 40 39,qB 41 .gtr 40 0] [3,6,41]) (.cond (.t 41) .skip (.exit 4))) (.seq (.block 5 (.seq (.seq (qS 15000 [qm 44 3,qg 45 (.slice 1 (.t 44) .none (.some (qI 136)) .none),qc 46 193 [45],qi 47 0] [3,6,46,47]) (.block 6 (.loop (lR (.close []) wt)))) (qS 20000 [qc 58 194 [6]] [3,6]))) (qS 14000 [qm 42 3,qg 43 (.slice 1 (.t 42) (.some (qI 136)) .none .none),qm 3 43] [3,6])))
def PK:ai:=(.seq (qS 1000 [qg 2 (.mv (.c (.string ⟨⟨[]⟩⟩)))] [0]) (.seq (qS 2000 [qg 9 (.buildSlice 1 [(.int .u8 0)] 0 []),qm 3 9] [0,3]) (.seq (.seq (qS 3000 [qm 10 0,qn 11 10,qi 12 0] [3,10,11,12]) (.block 0 (.loop (lR (.close [6002]) ze)))) (.seq (qS 8000 [qm 20 3,qg 21 (.buildSlice 1 [(.int .u8 0)] 1 [(0,(.c (.int .u8 1)))]),qg 22 (.append 1 1 [(.int .u8 0)] (.t 20) (.t 21)),qm 3 22] [3]) (.seq (.block 2 (.loop (lR (.close [10001,10002]) zL))) (.seq (qS 11000 [qm 30 3,qm 31 3,qn 32 31,qB 33 .sub 32 1,qx 34 1 30 33,ql 35 34,qg 36 (.bin .or (.t 35) (.c (.int .u8 128))),qx 37 1 30 33,qu 1 37 36] [3]) (.seq (qS 12000 [qg 38 (.build (zar .u64 25) []),qg 6 (.alloc (zar .u64 25)),qu 25 6 38] [3,6]) (.seq (.block 4 (.loop (lR (.close [15002,20000,2000]) wL))) (.seq (qS 21000 [qc 59 195 [6],qg 60 (.slice 1 (.t 59) .none (.some (qI 32)) .none),qg 61 (.toStr (.t 60)),qm 2 61] [2]) .ret)))))))))
def zQ:ae:=⟨62,PK,[.tmp 2],.false,.false⟩
theorem a05:OkF 95 zQ:=okq func95
def Ts:=cv (a:=gT f96 [[1],[2]])
def DI:ae:=⟨11,mkC Ts.1,[.tmp 2],.false,.false⟩
theorem a2U:OkF 96 DI:=okq func96
def sM:=cv (a:=gT f97 [[0,1,2,10,11,12,13,14],[1,2,10,11,12,13,14,16],[1,2,10,11,12,13,14,16,17],[1,2,11,12,13,14,16,17,18],[1,2,11,12,13,14,16,17,18,19],[1,2,11,12,13,14,16,17,18,19,36],[1,2,11,12,13,14,16,17,18,19,20],[1,2,11,12,13,14,16,17,18,19,20,52],[14,15],[1,2,11,12,13,14,16,17,18,19,20],[1,2,11,12,13,14,16,17,18,19,20,21,22],[1,2,11,12,13,14,16,17,18,19,20,22],[1,2,11,12,13,14,16,17,18,19,22],[1,2,11,12,13,14,16,17,18,19],[1,2,11,12,13,14,16,17,18,19,73],[1,2,11,12,13,14,16,17,18,19],[1,2,11,12,13,14,16,17,18,19],[1,11,12,13,14,16,17,88],[14,15],[1,11,12,13,14,16,17],[1,11,12,13,14,16,17,101],[14,15],[1,11,12,13,14,16,17],[1,11,12,13,14,16,17,23],[1,12,13,14,16,17,23,24],[1,12,13,14,16,17,23,24,25],[1,12,13,14,16,17,23,24,25,127],[1,12,13,14,16,17,23,24,25,26],[1,12,13,14,16,17,23,24,25,26,146],[14,15],[1,12,13,14,16,17,23,24,25],[14,15]] [(.close [9006,11002,12001,12005,12006,14002,15002,15003,17006]),(.close [29014])])
def tu:ae:=⟨150,mkC sM.1,[.cell 14 (.some 4),.tmp 15],.false,.false⟩
def CB:=cv (a:=lp sM.1 0)
def Bs:ai:=mkC CB.1
def AX:=cv (a:=lp sM.1 1)
def AW:ai:=mkC AX.1
theorem QQ:OkF 97 tu:=okq func97
def FJ:=cv (a:=gT f98 [[0,1,5],[6]])
def pR:ae:=⟨17,mkC FJ.1,[.tmp 6],.false,.false⟩
theorem OK:OkF 98 pR:=okq func98
def Co:=cv (a:=gT f99 [[1,2],[4]])
def ot:ae:=⟨9,mkC Co.1,[.tmp 4],.false,.false⟩
theorem M8:OkF 99 ot:=okq func99
def P2:=cv (a:=gT f100 [[0],[2]])
def zn:ae:=⟨6,mkC P2.1,[.tmp 2],.false,.false⟩
theorem YR:OkF 100 zn:=okq func100
def Be:=cv (a:=gT f101 [[1,2],[4]])
def mQ:ae:=⟨9,mkC Be.1,[.tmp 4],.false,.false⟩
theorem JO:OkF 101 mQ:=okq func101
def B2:=cv (a:=gT f102 [[1,2,3],[4]])
def mM:ae:=⟨9,mkC B2.1,[.tmp 4],.false,.false⟩
theorem Kv:OkF 102 mM:=okq func102
def Dd:=cv (a:=gT f103 [[1,3,5],[1,3,5,27],[6],[1,5,29,30,31],[1,5,29,30,31,32],[1,5,7,8,29,30,31],[1,5,29,30,31,50],[6],[1,5,29,30,31],[6]] [(.close [7012])])
def vF:ae:=⟨52,mkC Dd.1,[.tmp 6],.false,.false⟩
def Fy:=cv (a:=lp Dd.1 0)
def EC:ai:=mkC Fy.1
theorem Um:OkF 103 vF:=okq func103
def BK:=cv (a:=gT f105 [[0],[0,3],[0,3,7],[0,3,15],[2],[0,3],[2]] [(.close [5004])])
def vK:ae:=⟨16,mkC BK.1,[.tmp 2],.false,.false⟩
def EW:=cv (a:=lp BK.1 0)
def Fb:ai:=mkC EW.1
theorem X1:OkF 105 vK:=okq func105
def Jx:=cv (a:=gT f106 [[0,1],[1],[1,10],[4],[4]])
def tE:ae:=⟨12,mkC Jx.1,[.tmp 4],.false,.false⟩
theorem S8:OkF 106 tE:=okq func106
def Ph:=cv (a:=gT f109 [[0,1],[1],[1,10],[4],[4]])
def yN:ae:=⟨12,mkC Ph.1,[.tmp 4],.false,.false⟩
theorem ZI:OkF 109 yN:=okq func109
def OW:=cv (a:=gT f110 [[2,4,5,7],[2,4,5,7,9],[8],[2,4,7,13],[8],[7,32],[8],[38],[8],[8]])
def yQ:ae:=⟨41,mkC OW.1,[.tmp 8],.false,.false⟩
theorem ZL:OkF 110 yQ:=okq func110
def vT:=cv (a:=gT f111 [[3,4,5],[3,4,5,51],[6],[3,4,5,7],[3,4,5,7,56],[3,4,5,7,74],[6],[3,4,5,7],[3,4,5,8],[3,4,5,8,79],[3,4,5,8,97],[6],[3,4,5,8],[6]] [(.close [7013]),(.close [12013])])
def vd:ae:=⟨105,mkC vT.1,[.tmp 6],.false,.false⟩
def FC:=cv (a:=lp vT.1 0)
def FS:ai:=mkC FC.1
def G7:=cv (a:=lp vT.1 1)
def Eo:ai:=mkC G7.1
theorem Wq:OkF 111 vd:=okq func111
def Gk:=cv (a:=gT f112 [[2,5,6,8,9],[2,5,6,8,11],[2,5,6,8,11,12],[2,5,6,8,11,12,13,14,15],[2,5,6,8,11,12,13,14,15,51],[10],[2,5,6,8,11,13,14,65],[10],[2,5,6,8,11,13,14],[2,5,6,8,11,13,14,16],[2,5,6,8,11,13,14,16,17],[2,5,6,8,11,13,14,15,16,18],[2,5,6,8,11,13,14,15,16,18,113],[10],[2,5,6,8,11,13,14,16,18,19],[2,5,6,8,11,13,14,16,18,19,20],[5,6,8,11,13,14,16,18,19,21],[5,6,8,11,14,19,21,22],[5,6,8,11,19,148],[10],[5,6,8,11,19],[15],[10]])
def qE:ae:=⟨171,mkC Gk.1,[.tmp 10],.false,.false⟩
theorem Ow:OkF 112 qE:=okq func112
def zh:=cv (a:=gT f113 [[0],[0,3],[0,3,4],[0,3,4,11],[0,3,4],[0,3,4],[2]] [(.close [6006])])
def sG:ae:=⟨23,mkC zh.1,[.tmp 2],.false,.false⟩
def CK:=cv (a:=lp zh.1 0)
def Ct:ai:=mkC CK.1
theorem QD:OkF 113 sG:=okq func113
def SZ:=cv (a:=gT f115 [[1,2],[1,2,3],[1,2,3],[2,3],[2]])
def DT:ae:=⟨11,mkC SZ.1,[.cell 2 (.some 2)],.false,.false⟩
theorem a0Q:OkF 115 DT:=okq func115
def Hq:=cv (a:=gT f117 [[0],[0,3],[0,3,4],[0,3,4,11],[0,3,4],[0,3,4],[2]] [(.close [6006])])
def zU:ae:=⟨23,mkC Hq.1,[.tmp 2],.false,.false⟩
def Jr:=cv (a:=lp Hq.1 0)
def Jh:ai:=mkC Jr.1
theorem Ze:OkF 117 zU:=okq func117
def Fp:=cv (a:=gT f118 [[2,4,5,7],[2,4,5,7,9],[8],[2,4,7,13],[8],[7,32],[8],[38],[8],[8]])
def qh:ae:=⟨42,mkC Fp.1,[.tmp 8],.false,.false⟩
theorem Pd:OkF 118 qh:=okq func118
def IY:=cv (a:=gT f119 [[2,5,6,8,9],[2,5,6,8,9,18],[10,11],[2,5,6,8,12],[13],[10,11]])
def tv:ae:=⟨29,mkC IY.1,[.tmp 10,.tmp 11],.false,.false⟩
theorem Rr:OkF 119 tv:=okq func119
def zE:=cv (a:=gT f120 [[0,1],[0,1,10],[4],[0,1,5],[0,1,5,14],[0,1,5,26],[4],[0,1,5],[4]] [(.close [7008])])
def sV:ae:=⟨27,mkC zE.1,[.tmp 4],.false,.false⟩
def Bt:=cv (a:=lp zE.1 0)
def C7:ai:=mkC Bt.1
theorem S4:OkF 120 sV:=okq func120
def Tn:=cv (a:=gT f122 [[2,3],[2,3,9],[4],[14],[4],[4]])
def DE:ae:=⟨15,mkC Tn.1,[.tmp 4],.false,.false⟩
theorem a2w:OkF 122 DE:=okq func122
def GU:=cv (a:=gT f124 [[0,1],[0,1,10],[4],[0,1,5],[0,1,5,14],[0,1,5,26],[4],[0,1,5],[4]] [(.close [7008])])
def yW:ae:=⟨27,mkC GU.1,[.tmp 4],.false,.false⟩
def In:=cv (a:=lp GU.1 0)
def HQ:ai:=mkC In.1
theorem Z3:OkF 124 yW:=okq func124
def we:=cv (a:=gT f125 [[0,4,5,6],[4,5,6,8],[4,5,6,8,9],[4,5,6,8,9,10],[4,5,6,8,9,10,23],[4,5,6,8,9,10],[4,5,6,8,9,10],[4,5,6,8,9],[4,5,6,8,9],[4,5,6,8,9],[4,5,6,8,9,11],[4,5,6,8,9,11,45],[4,5,6,8,9,11],[4,5,6,8,9,11],[4,5,6,8,9],[4,5,6,8,9],[6,7]] [(.close [7003,7004,7005]),(.close [14003,14004,14005])])
def w9:ae:=⟨83,mkC we.1,[.cell 6 (.some 17),.tmp 7],.false,.false⟩
def Gf:=cv (a:=lp we.1 0)
def Ep:ai:=mkC Gf.1
def CQ:=cv (a:=lp we.1 1)
def Bx:ai:=mkC CQ.1
theorem U7:OkF 125 w9:=okq func125
def EZ:=cv (a:=gT f126 [[0,4,5,6],[0,4,5,6,16],[6,7],[4,5,6,8],[4,5,6,8,9],[4,5,6,8,9,10],[4,5,6,8,9],[4,5,6,8,9],[4,5,6,8,9],[4,5,6,9],[6,7]])
def qC:ae:=⟨64,mkC EZ.1,[.cell 6 (.some 17),.tmp 7],.false,.false⟩
theorem N9:OkF 126 qC:=okq func126
def Hz:=cv (a:=gT f136 [[1],[2]])
def sY:ae:=⟨49,mkC Hz.1,[.tmp 2],.false,.false⟩
theorem Sb:OkF 136 sY:=okq func136
def zo:=cv (a:=gT f137 [[1],[1,23],[2],[1,25,26],[1,25,26,27],[1,4,25,26],[1,25,26,37],[2],[1,25,26],[2]] [(.close [7007])])
def tn:ae:=⟨39,mkC zo.1,[.tmp 2],.false,.false⟩
def Ob:=cv (a:=lp zo.1 0)
def b0V:ai:=mkC Ob.1
theorem Rs:OkF 137 tn:=okq func137
def Fu:=cv (a:=gT f148 [[1,2,4],[2,4],[2,4],[4]])
def pB:ae:=⟨19,mkC Fu.1,[.cell 4 (.some 4)],.false,.false⟩
theorem Pa:OkF 148 pB:=okq func148
def L1:=cv (a:=gT f149 [[1,2,3],[1,2,3,9],[1,2,3,4],[1,2,3,4],[2,3],[1,2,3,5],[1,2,3,5],[2,3]])
def vt:ae:=⟨47,mkC L1.1,[.cell 2 (.some 4),.cell 3 (.some 2)],.false,.false⟩
theorem Xk:OkF 149 vt:=okq func149
def F9:=cv (a:=gT f155 [[2,3,4],[4]])
def qN:ae:=⟨16,mkC F9.1,[.cell 4 (.some 2)],.false,.false⟩
theorem Ol:OkF 155 qN:=okq func155
def zb:=cv (a:=gT f159 [[0],[0,3],[0,3,4],[0,3,4,9],[0,3,4],[0,3,4],[2]] [(.close [6006,6007,6013,6014])])
def tC:ae:=⟨28,mkC zb.1,[.tmp 2],.false,.false⟩
def CH:=cv (a:=lp zb.1 0)
def CU:ai:=mkC CH.1
theorem Ss:OkF 159 tC:=okq func159
def fM:ai:=(.seq (qS 1000 [qg 2 (.mv (.c (.slice .none 0 0)))] [0]) (.seq (.seq (qS 2000 [qm 3 0,qg 4 (.isNil .false (.t 3))] [0,4]) (.cond (.t 4) (.seq (qS 3000 [qg 2 (.mv (.c (.slice .none 0 0)))] [2]) .ret) .skip)) (.seq (qS 4000 [qg 5 (.buildSlice 2 z0 0 []),qm 6 0,qg 7 (.append 2 16 z0 (.t 5) (.t 6)),qm 2 7] [2]) .ret)))
def aB:ae:=⟨8,fM,[.tmp 2],.true,.false⟩
theorem rZ:OkF 162 aB:=okq func162
def vE:=cv (a:=gT f166 [[]])
def jV:ae:=⟨23,mkC vE.1,[],.false,.false⟩
theorem H4:OkF 166 jV:=okq func166
def oG:=cv (a:=gT f167 [[]])
def gB:ae:=⟨8,mkC oG.1,[],.false,.false⟩
theorem zZ:OkF 167 gB:=okq func167
def Om:=cv (a:=gT f169 [[0,1],[4]])
def yc:ae:=⟨19,mkC Om.1,[.tmp 4],.false,.false⟩
theorem a5W:OkF 169 yc:=okq func169
def Gz:=cv (a:=gT f170 [[0,1],[0,1,5],[1,5,9,10,11],[1,5,9,10,11,12],[1,5,7,9,10,11],[1,5,9,10,11],[1,5,9,10,11],[4]] [(.close [5002,6005,6006])])
def zR:ae:=⟨24,mkC Gz.1,[.tmp 4],.false,.false⟩
def Ih:=cv (a:=lp Gz.1 0)
def IQ:ai:=mkC Ih.1
theorem YA:OkF 170 zR:=okq func170
def p8:=cv (a:=gT f171 [[0,1],[0,1,5],[0,5,7,8],[0,5,7,8,9],[0,5,7,8],[0,5,7,8],[4]] [(.close [5002,5003,5004])])
def lc:ae:=⟨17,mkC p8.1,[.tmp 4],.false,.false⟩
def uh:=cv (a:=lp p8.1 0)
def uC:ai:=mkC uh.1
theorem Ie:OkF 171 lc:=okq func171
def DG:=cv (a:=gT f173 [[0],[0,3],[0,3,4],[0,3,4,12],[0,3,4,5],[0,3,4,5,6],[0,3,4,5,6,22],[0,3,4,5,6],[0,3,4,5,6],[0,3,4,5,6],[0,3,4],[0,3,4],[2]] [(.close [6003,10010,10011,11013,2001]),(.close [10010,10011,11013])])
def E3:ae:=⟨55,mkC DG.1,[.tmp 2],.false,.false⟩
def LV:=cv (a:=lp DG.1 0)
def LN:ai:=mkC LV.1
def KW:=cv (a:=lp DG.1 1)
def Lo:ai:=mkC KW.1
theorem a2i:OkF 173 E3:=okq func173
def LR:=cv (a:=gT f175 [[1,2,4],[4]])
def vW:ae:=⟨10,mkC LR.1,[.cell 4 (.some 4)],.false,.false⟩
theorem VG:OkF 175 vW:=okq func175
def ww:=cv (a:=gT f179 [[0,1],[0,1,5],[0,5,6],[0,5,6,11],[0,5,6],[0,5,6],[4]] [(.close [6007,6008])])
def qr:ae:=⟨24,mkC ww.1,[.tmp 4],.false,.false⟩
def B8:=cv (a:=lp ww.1 0)
def B9:ai:=mkC B8.1
theorem N8:OkF 179 qr:=okq func179
def wm:=cv (a:=gT f180 [[1,2,3,6],[1,2,6,8,9],[1,2,6,8,9,10],[1,2,6,8,9,10,11],[1,2,6,8,9,10,11,21],[1,2,6,8,9,10,11],[1,2,6,8,9,10,11],[6,7]] [(.close [7008,7009])])
def qA:ae:=⟨36,mkC wm.1,[.cell 6 (.some 4),.tmp 7],.false,.false⟩
def Ai:=cv (a:=lp wm.1 0)
def B4:ai:=mkC Ai.1
theorem NZ:OkF 180 qA:=okq func180
def F3:=cv (a:=gT f182 [[2,3,4],[4]])
def qd:ae:=⟨29,mkC F3.1,[.cell 4 (.some 2)],.false,.false⟩
theorem P4:OkF 182 qd:=okq func182
def a3m:=cv (a:=gT f183 [[0],[0]])
def N7:ae:=⟨2,mkC a3m.1,[.cell 0 (.some 2)],.false,.false⟩
theorem a7C:OkF 183 N7:=okq func183
def gk:=cv (a:=gT f184 [[0,1],[4]])
def co:ae:=⟨9,mkC gk.1,[.tmp 4],.false,.false⟩
theorem lM:OkF 184 co:=okq func184
def B0:=cv (a:=gT f185 [[1,2],[3]])
def mK:ae:=⟨8,mkC B0.1,[.tmp 3],.false,.false⟩
theorem KH:OkF 185 mK:=okq func185
def LJ:=cv (a:=gT f186 [[0],[2]])
def v8:ae:=⟨5,mkC LJ.1,[.tmp 2],.false,.false⟩
theorem Xa:OkF 186 v8:=okq func186
def hJ:=cv (a:=gT f187 [[0,1,3,4,7,11],[0,1,3,4,7,11,13],[0,1,4,7,11,13,18,19,20],[0,1,4,7,11,13,18,19,20,21],[0,1,4,7,11,13,14,15,18,19,20],[0,1,4,7,11,13,14,15,18,19,20,25],[10,11,12],[0,1,4,7,11,13,14,15,18,19,20,33],[10,11,12],[0,1,4,7,11,13,14,15,18,19,20],[0,1,4,7,11,13,14,15,16,18,19,20],[0,1,4,7,11,13,14,18,19,20],[0,1,4,7,11,13,18,19,20],[0,1,4,7,11,13,18,19,20],[10,11,12]] [(.close [6003,8006,10002,11001,11002,12002,12005,12006,13002])])
def dA:ae:=⟨62,mkC hJ.1,[.tmp 10,.cell 11 (.some 2),.tmp 12],.false,.false⟩
def je:=cv (a:=lp hJ.1 0)
def fN:ai:=mkC je.1
theorem Bj:OkF 187 dA:=okq func187
def uz:=cv (a:=gT f188 [[0,2,3,8],[]])
def jl:ae:=⟨17,mkC uz.1,[],.false,.false⟩
theorem Ef:OkF 188 jl:=okq func188
def NH:=cv (a:=gT f189 [[0,1,4],[0,1,4,5],[1,4,5,9,10,11],[1,4,5,9,10,11,12],[1,4,5,6,7,9,10,11],[1,4,5,9,10,11],[1,4,5,9,10,11],[4]] [(.close [5003,6006,6007,6009,6010,6015,6016,6017,6018])])
def IF:ae:=⟨37,mkC NH.1,[.cell 4 (.some 2)],.false,.false⟩
def Qd:=cv (a:=lp NH.1 0)
def O8:ai:=mkC Qd.1
theorem a5B:OkF 189 IF:=okq func189
def AD:=cv (a:=gT f190 [[1,2,3],[1,7],[6]] [] [(2,.close [2009])])
def mR:ae:=⟨25,mkC AD.1,[.tmp 6],.false,.false⟩
theorem Kh:OkF 190 mR:=okq func190
def uH:=cv (a:=gT f191 [[0,1,2,3,10,11],[0,1,2,3,10,11,13],[1,2,3,10,11,13,22,23,24],[1,2,3,10,11,13,22,23,24,25],[1,2,3,10,11,13,14,15,22,23,24],[1,2,3,10,11,13,14,15,16,22,23,24],[1,2,3,10,11,13,14,15,16,17,18,19,22,23,24],[1,2,3,10,11,13,14,16,17,18,19,22,23,24,64],[12],[1,2,3,10,11,13,14,16,17,18,19,20,22,23,24],[1,2,10,11,13,14,16,17,18,19,20,22,23,24,69],[1,2,10,11,13,14,16,17,18,19,20,22,23,24],[1,2,10,11,13,14,16,17,18,19,22,23,24,77],[12],[1,2,3,10,11,13,22,23,24],[1,2,3,10,11,13,22,23,24],[92],[12],[12]] [(.close [7017,7018,8006,8007,8014,10001,15008])])
def o6:ae:=⟨93,mkC uH.1,[.tmp 12],.false,.false⟩
def xL:=cv (a:=lp uH.1 0)
def y7:ai:=mkC xL.1
theorem Mr:OkF 191 o6:=okq func191
def a3H:=cv (a:=gT f192 [[0,1],[4]])
def MW:ae:=⟨9,mkC a3H.1,[.tmp 4],.false,.false⟩
theorem a8o:OkF 192 MW:=okq func192
def wQ:ai:=(.seq (qS 4000 [qb 10 .lss 9 8] [2,3,7,8,9,10]) (.seq (.cond (.t 10) .skip (.exit 0)) (.seq (.block 1 (.seq (qS 5000 [qm 11 9,qx 12 1 7 9,ql 13 12,qm 4 11,qm 5 13] [2,3,4,5,7,8,9]) (.drawn 6000 [qm 14 4,qB 15 .quo 14 8,qX 16 25 1 3 15,ql 17 16,qm 18 5,qg 19 (.toInt .u64 (.t 18)),qm 20 4,qB 21 .rem 20 8,qD 22 .mul 8 21,qb 23 .shl 19 22,qb 24 .or 17 23,qX 25 25 1 3 15,qu 1 25 24] [[],[0],[1,0],[2,1,0],[],[4],[],[6],[7,6],[5,4,8,7,6],[3,2,1,0,9,5,4,8,7,6],[1,0,2,3,4,5,6,7,8,9,10],[11,1,0,2,3,4,5,6,7,8,9,10]] [2,3,7,8,9]))) (qS 7000 [qB 26 .add 9 1,qm 9 26] [2,3,7,8,9]))))
def L6:ai:=(.seq (qS 1000 [qg 2 (.alloc (zar .u64 25))] [0,2]) (.seq (qS 2000 [qg 6 (.build (zar .u64 25) []),qg 3 (.alloc (zar .u64 25)),qu 25 3 6] [0,2,3]) (.seq (.seq (qS 3000 [qm 7 0,qn 8 7,qi 9 0] [2,3,7,8,9]) (.block 0 (.loop (lR (.close []) wQ)))) (.seq (qS 8000 [qL 27 25 3,qu 25 2 27] [2]) .ret))))
def vH:ae:=⟨28,L6,[.cell 2 (.some 25)],.false,.false⟩
theorem Xr:OkF 193 vH:=okq func193
def lE:ai:=(.seq (qS 8000 [qB 28 .lss 27 25] [0,2,5,6,7,20,21,26,27,28]) (.seq (.cond (.t 28) .skip (.exit 2)) (.seq (.block 3 (.seq (.drawn 9000 [qm 29 27,qk 30 26,qX 31 25 1 30 27,ql 32 31,qm 8 29,qm 9 32] [[],[],[1],[2,1],[0],[3,2,1,4,0]] [0,2,5,6,7,8,9,20,21,26,27]) (qS 10000 [qm 33 8,qB 34 .rem 33 5,qX 35 5 1 6 34,ql 36 35,qm 37 9,qb 38 .xor 36 37,qX 39 5 1 6 34,qu 1 39 38] [0,2,5,6,7,20,21,26,27]))) (qS 11000 [qB 40 .add 27 1,qm 27 40] [0,2,5,6,7,20,21,26,27]))))
def kx:ai:=(.seq (qS 13000 [qB 43 .lss 42 25] [0,2,5,6,7,20,21,41,42,43]) (.seq (.cond (.t 43) .skip (.exit 4)) (.seq (.block 5 (.seq (.drawn 14000 [qm 44 42,qk 45 41,qX 46 25 1 45 42,ql 47 46,qm 10 44,qm 11 47] [[],[],[1],[2,1],[0],[3,2,1,4,0]] [0,2,5,6,7,10,11,20,21,41,42]) (.seq (qS 15000 [qm 48 10,qB 49 .rem 48 5,qm 50 10,qB 51 .quo 50 5,qm 12 49,qm 13 51] [0,2,5,6,7,10,11,12,13,20,21,41,42]) (.seq (.drawn 16000 [qm 52 11,qm 53 12,qB 54 .add 53 4,qB 55 .rem 54 5,qX 56 5 1 6 55,ql 57 56,qm 58 12,qB 59 .add 58 1,qB 60 .rem 59 5,qX 61 5 1 6 60,ql 62 61,qg 63 (.call 297 [(.t 62),(qI 1)]),qb 64 .xor 57 63,qb 65 .xor 52 64,qm 11 65] [[],[],[1],[2,1],[3,2,1],[4,3,2,1],[],[6],[7,6],[8,7,6],[9,8,7,6],[10,9,8,7,6],[5,4,3,2,1,11,10,9,8,7,6],[0,12,5,4,3,2,1,11,10,9,8,7,6],[13,0,12,5,4,3,2,1,11,10,9,8,7,6]] [0,2,5,6,7,10,11,12,13,20,21,41,42]) (qS 17000 [qm 66 13,qm 67 12,qD 68 .mul 2 67,qm 69 13,qD 70 .mul 3 69,qb 71 .add 68 70,qB 72 .rem 71 5,qD 73 .mul 5 72,qb 74 .add 66 73,qm 75 11,qm 76 10,qX 77 25 1 2 76,ql 78 77,qc 79 297 [75,78],qX 80 25 1 7 74,qu 1 80 79] [0,2,5,6,7,20,21,41,42]))))) (qS 18000 [qB 81 .add 42 1,qm 42 81] [0,2,5,6,7,20,21,41,42]))))
def kJ:ai:=(.seq (qS 20000 [qB 84 .lss 83 25] [0,2,5,7,20,21,82,83,84]) (.seq (.cond (.t 84) .skip (.exit 6)) (.seq (.block 7 (.seq (qS 21000 [qm 85 83,qg 86 (.ixAgg 25 1 .none (.t 82) (.t 83)),qm 14 85,qm 15 86] [0,2,5,7,14,15,20,21,82,83]) (.seq (qS 22000 [qm 87 14,qB 88 .rem 87 5,qm 89 14,qm 90 14,qB 91 .rem 90 5,qb 92 .sub 89 91,qm 16 88,qm 17 92] [0,2,5,7,14,15,16,17,20,21,82,83]) (.drawn 23000 [qm 93 0,qm 94 14,qm 95 15,qm 96 17,qm 97 16,qB 98 .add 97 2,qB 99 .rem 98 5,qb 100 .add 96 99,qX 101 25 1 7 100,ql 102 101,qm 103 17,qm 104 16,qB 105 .add 104 1,qB 106 .rem 105 5,qb 107 .add 103 106,qX 108 25 1 7 107,ql 109 108,qb 110 .andNot 102 109,qb 111 .xor 95 110,qk 112 93,qX 113 25 1 112 94,qu 1 113 111] [[],[],[],[],[],[4],[5,4],[3,6,5,4],[7,3,6,5,4],[8,7,3,6,5,4],[],[],[11],[12,11],[10,13,12,11],[14,10,13,12,11],[15,14,10,13,12,11],[9,8,7,3,6,5,4,16,15,14,10,13,12,11],[2,17,9,8,7,3,6,5,4,16,15,14,10,13,12,11],[0],[19,0,1,2,3,4,5,6,7,8,9,10,11,12,13,14,15,16,17,18],[20,19,0,1,2,3,4,5,6,7,8,9,10,11,12,13,14,15,16,17,18]] [0,2,5,7,20,21,82,83])))) (qS 24000 [qB 114 .add 83 1,qm 83 114] [0,2,5,7,20,21,82,83]))))
def lA:ai:=(.seq (qS 4000 [qB 22 .lss 21 24] [0,2,20,21,22]) (.seq (.cond (.t 22) .skip (.exit 0)) (.seq (.block 1 (.seq (qS 5000 [qg 23 (.ixAgg 24 1 .none (.t 20) (.t 21)),qm 5 23] [0,2,5,20,21]) (.seq (qS 6000 [qg 24 (.build (zar .u64 5) []),qg 25 (.build (zar .u64 25) []),qg 6 (.alloc (zar .u64 5)),qg 7 (.alloc (zar .u64 25)),qu 5 6 24,qu 25 7 25] [0,2,5,6,7,20,21]) (.seq (.seq (qS 7000 [qm 26 0,qi 27 0] [0,2,5,6,7,20,21,26,27]) (.block 2 (.loop (lR (.close []) lE)))) (.seq (.seq (qS 12000 [qm 41 0,qi 42 0] [0,2,5,6,7,20,21,41,42]) (.block 4 (.loop (lR (.close [16011,17013]) kx)))) (.seq (.seq (qS 19000 [qL 82 25 7,qi 83 0] [0,2,5,7,20,21,82,83]) (.block 6 (.loop (lR (.close []) kJ)))) (.drawn 25000 [qm 115 0,qk 116 115,qg 117 (.idxArr 25 1 (.t 116) (qI 0)),ql 118 117,qm 119 5,qb 120 .xor 118 119,qk 121 115,qg 122 (.idxArr 25 1 (.t 121) (qI 0)),qu 1 122 120] [[],[0],[1,0],[2,1,0],[],[3,2,1,0,4],[0],[6,0,1,2,3,4,5],[7,6,0,1,2,3,4,5]] [0,2,20,21]))))))) (qS 26000 [qB 123 .add 21 1,qm 21 123] [0,2,20,21]))))
def vm:ai:=(.seq (qS 1000 [qg 18 (.build (zar .i64 25) (WX .i64 0 [0,1,62,28,27,36,44,6,55,20,3,10,43,25,39,41,45,15,21,8,18,2,61,56,14])),qg 2 (.alloc (zar .i64 25)),qu 25 2 18] [0,2]) (.seq (qS 2000 [qg 19 (.build (zar .u64 24) (WX .u64 0 [1,32898,9223372036854808714,9223372039002292224,32907,2147483649,9223372039002292353,9223372036854808585,138,136,2147516425,2147483658,2147516555,9223372036854775947,9223372036854808713,9223372036854808579,9223372036854808578,9223372036854775936,32778,9223372039002259466,9223372039002292353,9223372036854808704,2147483649,9223372039002292232])),qg 3 (.alloc (zar .u64 24)),qu 24 3 19] [0,2,3]) (.seq (qS 3000 [qL 20 24 3,qi 21 0] [0,2,20,21]) (.block 0 (.loop (lR (.close [6002,6003,16011,17013]) lA))))))
def jU:ae:=⟨124,vm,[],.false,.false⟩
theorem H6:OkF 194 jU:=okq func194
def ud:=cv (a:=gT f195 [[0],[0,3],[0,3,6],[0,3,6,7],[0,3,4,6],[0,3,6],[0,3,6],[2]] [(.close [6012,6013])])
def o7:ae:=⟨25,mkC ud.1,[.tmp 2],.false,.false⟩
def xp:=cv (a:=lp ud.1 0)
def xz:ai:=mkC xp.1
theorem Mm:OkF 195 o7:=okq func195
def Lm:=cv (a:=gT f196 [[0],[2]])
def w7:ae:=⟨5,mkC Lm.1,[.tmp 2],.false,.false⟩
theorem VU:OkF 196 w7:=okq func196
def O2:=cv (a:=gT f197 [[2,3,4],[4]])
def zp:ae:=⟨16,mkC O2.1,[.cell 4 (.some 2)],.false,.false⟩
theorem Yh:OkF 197 zp:=okq func197
def vo:=cv (a:=gT f198 [[0,3,4],[0,3,4,5],[0,3,4,5,6],[0,3,4,5,6,14],[0,3,4,5,6,7],[0,3,4,5,6,7,8],[0,3,4,5,6,7,8,9],[0,3,4,5,6,7,8,9,24],[0,3,4,5,6,7,8,9,29],[0,3,4,5,6,7,8,9],[0,3,4,5,6,7,8,9],[0,3,4,5,6,7,8,9],[0,3,4,5,6],[0,3,4,5,6],[4]] [(.close [6004,12003,12004,12005,13003,13004,14003,14004,14005,14006]),(.close [12003,12004,12005,13003,13004])])
def vp:ae:=⟨49,mkC vo.1,[.cell 4 (.some 2)],.false,.false⟩
def EU:=cv (a:=lp vo.1 0)
def Er:ai:=mkC EU.1
def Fq:=cv (a:=lp vo.1 1)
def Gj:ai:=mkC Fq.1
theorem Xj:OkF 198 vp:=okq func198
def Qz:=cv (a:=gT f199 [[2,3,4],[4]])
def zk:ae:=⟨30,mkC Qz.1,[.cell 4 (.some 2)],.false,.false⟩
theorem a0a:OkF 199 zk:=okq func199
def Cp:=cv (a:=gT f200 [[0,1,4],[0,1,4,5],[0,1,4,5,6],[0,1,4,5,6,11],[0,1,4,5,6],[0,1,4,5,6],[4]] [(.close [6009,6014,6019,6020,6021,6022])])
def uW:ae:=⟨38,mkC Cp.1,[.cell 4 (.some 2)],.false,.false⟩
def Fj:=cv (a:=lp Cp.1 0)
def EK:ai:=mkC Fj.1
theorem UB:OkF 200 uW:=okq func200
def Ld:=cv (a:=gT f201 [[1,2,3],[1,7],[1,8],[6]])
def vf:ae:=⟨31,mkC Ld.1,[.tmp 6],.false,.false⟩
theorem US:OkF 201 vf:=okq func201
def zl:=cv (a:=gT f202 [[0,1,2,3,4,12,13],[0,1,2,3,4,12,13,15],[0,1,2,3,4,12,13,15,16],[0,1,2,3,4,12,13,15,16,24],[0,1,2,3,4,12,13,15,16,17],[0,1,2,3,4,12,13,15,16,17,18],[0,1,2,3,4,12,13,15,16,17,18],[0,1,2,3,4,12,13,15,16,17,18,19],[0,1,2,3,4,12,13,15,16,17,18,19,20],[0,1,2,3,4,12,13,15,16,17,18,19,20,65],[14],[0,1,2,3,4,12,13,15,16,17,19,20,84],[14],[0,1,3,4,12,13,15,16,17],[0,1,2,3,4,12,13,15,16],[0,1,2,3,4,12,13,15,16],[98],[14],[14]] [(.close [9006,10007,11008,11009,11016,15008])])
def sW:ae:=⟨99,mkC zl.1,[.tmp 14],.false,.false⟩
def BX:=cv (a:=lp zl.1 0)
def Cl:ai:=mkC BX.1
theorem QJ:OkF 202 sW:=okq func202
def fH:=cv (a:=gT f203 [[0,1],[4]])
def bY:ae:=⟨9,mkC fH.1,[.tmp 4],.false,.false⟩
theorem kW:OkF 203 bY:=okq func203
def Az:=cv (a:=gT f204 [[0,1],[3]])
def mW:ae:=⟨13,mkC Az.1,[.tmp 3],.false,.false⟩
theorem K2:OkF 204 mW:=okq func204
def da:=cv (a:=gT f205 [[0,1],[4]])
def aY:ae:=⟨9,mkC da.1,[.tmp 4],.false,.false⟩
theorem kX:OkF 205 aY:=okq func205
def xt:=cv (a:=gT f206 [[0,1],[3]])
def kU:ae:=⟨8,mkC xt.1,[.tmp 3],.false,.false⟩
theorem HJ:OkF 206 kU:=okq func206
def eY:=cv (a:=gT f207 [[0,1],[4]])
def bQ:ae:=⟨9,mkC eY.1,[.tmp 4],.false,.false⟩
theorem kf:OkF 207 bQ:=okq func207
def vJ:=cv (a:=gT f208 [[1,2],[3]])
def k9:ae:=⟨8,mkC vJ.1,[.tmp 3],.false,.false⟩
theorem GG:OkF 208 k9:=okq func208
def wB:ai:=(.seq (.seq (qS 3000 [qm 12 3,qn 13 12,qB 14 .rem 13 136,qB 15 .neq 14 0] [3,15]) (.cond (.t 15) .skip (.exit 0))) (.block 1 (qS 4000 [qm 16 3,qg 17 (.buildSlice 1 [(.int .u8 0)] 1 [(0,(.c (.int .u8 0)))]),qg 18 (.append 1 1 [(.int .u8 0)] (.t 16) (.t 17)),qm 3 18] [3])))
def ue:ai:=(.seq (.seq (qS 12000 [qm 41 7,qB 42 .lss 41 25] [3,4,5,6,7,42]) (.cond (.t 42) .skip (.exit 4))) (.seq (.block 5 (.drawn 14000 [qm 45 7,qX 46 25 1 4 45,ql 47 46,qm 48 7,qX 49 25 1 6 48,ql 50 49,qb 51 .xor 47 50,qX 52 25 1 4 45,qu 1 52 51] [[],[0],[1,0],[],[3],[4,3],[2,1,0,5,4,3],[0,1,2,3,4,5,6],[7,0,1,2,3,4,5,6]] [3,4,5,6,7])) (qS 13000 [qm 43 7,qB 44 .add 43 1,qm 7 44] [3,4,5,6,7])))
def xa:ai:=(.seq (.seq (qS 8000 [qm 28 5,qm 29 3,qn 30 29,qb 31 .lss 28 30] [3,4,5,31]) (.cond (.t 31) .skip (.exit 2))) (.seq (.block 3 (.seq (qS 10000 [qm 34 3,qm 35 5,qm 36 5,qB 37 .add 36 136,qg 38 (.slice 1 (.t 34) (.some (.t 35)) (.some (.t 37)) .none),qg 39 (.toStr (.t 38)),qc 40 304 [39],qg 6 (.alloc (zar .u64 25)),qu 25 6 40] [3,4,5,6]) (.seq (.seq (qS 11000 [qi 7 0] [3,4,5,6,7]) (.block 4 (.loop (lR (.close []) ue)))) (qS 15000 [qL 53 25 4,qc 54 305 [53],qu 25 4 54] [3,4,5])))) (qS 9000 [qm 32 5,qB 33 .add 32 136,qm 5 33] [3,4,5])))
def LM:ai:=(.seq (qS 1000 [qg 2 (.mv (.c (.string ⟨⟨[]⟩⟩)))] [0]) (.seq (qS 2000 [qm 8 0,qg 9 (.toBytes (.t 8)),qg 10 (.buildSlice 1 [(.int .u8 0)] 1 [(0,(.c (.int .u8 1)))]),qg 11 (.append 1 1 [(.int .u8 0)] (.t 9) (.t 10)),qm 3 11] [3]) (.seq (.block 0 (.loop (lR (.close [4001,4002]) wB))) (.seq (qS 5000 [qm 19 3,qm 20 3,qn 21 20,qB 22 .sub 21 1,qx 23 1 19 22,ql 24 23,qg 25 (.bin .or (.t 24) (.c (.int .u8 128))),qx 26 1 19 22,qu 1 26 25] [3]) (.seq (qS 6000 [qg 27 (.build (zar .u64 25) []),qg 4 (.alloc (zar .u64 25)),qu 25 4 27] [3,4]) (.seq (.seq (qS 7000 [qi 5 0] [3,4,5]) (.block 2 (.loop (lR (.close [10006,10007,15001,2001]) xa)))) (.seq (qS 16000 [qL 55 25 4,qg 56 (.call 306 [(.t 55),(qI 32)]),qm 2 56] [2]) .ret)))))))
def vA:ae:=⟨57,LM,[.tmp 2],.false,.false⟩
theorem Vj:OkF 210 vA:=okq func210
def wj:=cv (a:=gT f213 [[0],[0,3],[0,3,7],[0,3,15],[2],[0,3],[2]] [(.close [5004])])
def pO:ae:=⟨16,mkC wj.1,[.tmp 2],.false,.false⟩
def B7:=cv (a:=lp wj.1 0)
def Au:ai:=mkC B7.1
theorem Ov:OkF 213 pO:=okq func213
def zr:=cv (a:=gT f214 [[2,4,5,7,8],[2,7,8,9],[2,7,8,9,10],[2,7,8,9,10,28],[2,7,8,9,10],[2,7,8,9,10],[8]] [(.close [6005])])
def tx:ae:=⟨42,mkC zr.1,[.cell 8 (.some 4)],.false,.false⟩
def CD:=cv (a:=lp zr.1 0)
def Cv:ai:=mkC CD.1
theorem QG:OkF 214 tx:=okq func214
def Bn:=cv (a:=gT f215 [[1,2,4],[1,2,4,6],[1,2,4,6,7],[1,2,4,6,7,13],[1,2,4,6,7,8,9],[1,2,4,6,7,9],[1,2,4,6,7],[1,2,4,6,7],[4,5]] [(.close [6001,6005,6006,8002,8003])])
def vZ:ae:=⟨28,mkC Bn.1,[.cell 4 (.some 4),.tmp 5],.false,.false⟩
def G4:=cv (a:=lp Bn.1 0)
def Ek:ai:=mkC G4.1
theorem Uo:OkF 215 vZ:=okq func215
def wo:=cv (a:=gT f216 [[0,2,3,6,9,11,12],[0,2,3,6,9,11,12,22],[10,11,12,13],[0,2,3,6,9,11,12,14],[0,2,3,6,9,11,12,14,15],[0,2,3,6,9,11,12,14,15,29],[0,2,3,6,9,11,12,14,15,16],[0,2,3,6,9,11,12,14,15,16,41],[10,11,12,13],[0,2,3,6,9,11,12,14,15,16,53],[10,11,12,13],[0,2,3,6,9,11,12,14,15,16],[0,2,3,6,9,11,12,14,15,16,17,18],[0,2,3,6,9,11,12,14,15,16,18],[0,2,3,6,9,11,12,14,15,18],[0,2,3,6,9,11,12,14,15],[0,2,3,6,9,11,12,14,15],[10,11,12,13]] [(.close [9003,10000,11006,12000,13002,14001,14005,14006,16002,17002,17003])])
def pP:ae:=⟨76,mkC wo.1,[.tmp 10,.cell 11 (.some 2),.cell 12 (.some 4),.tmp 13],.false,.false⟩
def Ag:=cv (a:=lp wo.1 0)
def AG:ai:=mkC Ag.1
theorem PG:OkF 216 pP:=okq func216
def BZ:=cv (a:=gT f217 [[0,1,4],[1,4,6],[4],[4]])
def oy:ae:=⟨29,mkC BZ.1,[.cell 4 (.some 2)],.false,.false⟩
theorem MA:OkF 217 oy:=okq func217
def L4:=cv (a:=gT f218 [[1,2],[2]])
def wa:ae:=⟨6,mkC L4.1,[.cell 2 (.some 2)],.false,.false⟩
theorem UQ:OkF 218 wa:=okq func218
def EG:=cv (a:=gT f219 [[1,2,3,6],[6]])
def qM:ae:=⟨25,mkC EG.1,[.cell 6 (.some 2)],.false,.false⟩
theorem NK:OkF 219 qM:=okq func219
def KB:=cv (a:=gT f220 [[0,1,4],[0,4,5],[0,4,5,6],[0,4,5,6,7],[0,4,5,6,7,14],[0,4,5,6,7],[0,4,5,6,7],[4]] [(.close [7009,7010])])
def E5:ae:=⟨29,mkC KB.1,[.cell 4 (.some 2)],.false,.false⟩
def KZ:=cv (a:=lp KB.1 0)
def Ls:ai:=mkC KZ.1
theorem a0q:OkF 220 E5:=okq func220
def sH:=cv (a:=gT f221 [[1,2,3],[1,2,3,7],[2,3,7,8],[2,7,8,9],[2,7,8,9,10],[2,7,8,9,10,28],[2,7,8,9,10,11],[2,7,8,9,10,11,37],[2,7,8,9,10,11,12],[2,7,8,9,10,11],[2,7,8,9,10,11],[2,7,8,9,10],[6]] [(.close [11007,12014,12020,12021,12022]),(.close [11007,12014,12020,12021,12022])])
def sZ:ae:=⟨72,mkC sH.1,[.tmp 6],.false,.false⟩
def C4:=cv (a:=lp sH.1 0)
def D5:ai:=mkC C4.1
def Br:=cv (a:=lp sH.1 1)
def CM:ai:=mkC Br.1
theorem SF:OkF 221 sZ:=okq func221
def L9:=cv (a:=gT f222 [[1,2],[1,2,3],[1,2,3],[1,2,3],[2,3],[2]])
def vQ:ae:=⟨14,mkC L9.1,[.cell 2 (.some 3)],.false,.false⟩
theorem Wh:OkF 222 vQ:=okq func222
end Go.AI.Fn
