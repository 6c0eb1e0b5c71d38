/- Codes. -/
import Derived.Test.YtdmhkkcihecndaaTb0
set_option linter.unusedVariables false
set_option maxRecDepth 100000
set_option maxHeartbeats 2000000
namespace Go.AI.Fn
open Proofs.Try
def mG:=cv (a:=gT f7 [[2,4,5,7],[2,4,5,7,24],[8],[2,4,5,7,9],[2,4,5,7,9],[2,4,5,7,9,29],[8],[2,4,5,7,9],[2,4,5,7,34],[8],[2,4,5,7,10,11],[2,4,5,7,10,11,12],[2,4,5,7,10,11,12,13],[2,4,5,7,10,11,12,13,14],[2,4,5,7,10,11,12,13,14,15,16],[2,4,5,7,10,11,12,13,14,15,16,70],[8],[2,4,5,7,10,11,12,13,14,15,16,75],[8],[2,4,5,7,10,11,12,13,14,15,16,80],[8],[2,4,5,7,10,11,12,13,14,15,16,85],[8],[2,4,5,7,10,11,12,13,14,15,16,17],[2,4,5,7,10,11,13,14,15,16,17],[2,4,5,7,10,11,14,15,16,17],[2,4,5,7,10,11,15,16,17],[2,4,5,7,10,11,15,107],[8],[2,4,5,7,10,11,15,18],[2,4,5,7,10,11,15,18],[2,4,5,7,10,11,15,18,19],[2,4,5,7,10,11,15,18,19],[2,4,5,7,10,11,15,18,19,115],[8],[2,4,5,7,10,11,15,18,118],[8],[10,11,15,18,20,21],[15,18,139],[8],[15,18,19],[18,19],[18,19,144],[8],[147],[8],[8]])
def a_w_FnExactStart:ak:=⟨148,mkC mG.1,[.tmp 8],.false,.false⟩
theorem tI:OkF 7 a_w_FnExactStart:=okq func7
def rz:=cv (a:=gT f19 [[1,2],[1,2,3],[1,2,3],[1,2,3],[2,3],[2]])
def iy:ak:=⟨14,mkC rz.1,[.cell 2 (.some 3)],.false,.false⟩
theorem xT:OkF 19 iy:=okq func19
def sT:=cv (a:=gT f26 [[1,2],[1,2],[1,2,10],[4],[1,2],[1,2,16],[4],[1],[1,22],[4],[4]])
def jU:ak:=⟨24,mkC sT.1,[.tmp 4],.false,.false⟩
theorem yH:OkF 26 jU:=okq func26
def xF:=cv (a:=gT f27 [[0,1],[1],[1,10],[4],[4]])
def ng:ak:=⟨12,mkC xF.1,[.tmp 4],.false,.false⟩
theorem CQ:OkF 27 ng:=okq func27
def qK:=cv (a:=gT f29 [[1,2],[1,2,3],[1,2,3],[1,2,3],[1,2,3],[1,2,3],[1,2,3],[2,3],[2]])
def iP:ak:=⟨26,mkC qK.1,[.cell 2 (.some 6)],.true,.false⟩
theorem wD:OkF 29 iP:=okq func29
def s3:=cv (a:=gT f30 [[0],[0,3],[0,3,4],[0,3,4,11],[0,3,4],[0,3,4],[2]] [(.close [6006])])
def nj:ak:=⟨23,mkC s3.1,[.tmp 2],.true,.false⟩
def sE:=cv (a:=lp s3.1 0)
def sF:ai:=mkC sE.1
theorem DS:OkF 30 nj:=okq func30
def zp:=cv (a:=gT f31 [[1,2],[1,2,3],[1,2,3],[2,3],[2]])
def pP:ak:=⟨11,mkC zp.1,[.cell 2 (.some 2)],.false,.false⟩
theorem EJ:OkF 31 pP:=okq func31
def rW:=cv (a:=gT f33 [[0,1],[0,1,10],[4],[0,1,5],[0,1,5,14],[0,1,5,26],[4],[0,1,5],[4]] [(.close [7008])])
def nP:ak:=⟨27,mkC rW.1,[.tmp 4],.false,.false⟩
def sV:=cv (a:=lp rW.1 0)
def tj:ai:=mkC sV.1
theorem BZ:OkF 33 nP:=okq func33
def sk:=cv (a:=gT f34 [[2,3],[2,3,9],[4],[2,3,14],[4],[2,3,19],[4],[2,3,25],[4],[2,3,31],[4],[37],[4],[4]])
def jP:ak:=⟨38,mkC sk.1,[.tmp 4],.false,.false⟩
theorem yc:OkF 34 jP:=okq func34
def pc:=cv (a:=gT f35 [[1,2],[1,2],[1,2],[1],[4]])
def hO:ak:=⟨18,mkC pc.1,[.tmp 4],.false,.false⟩
theorem ve:OkF 35 hO:=okq func35
def nw:=cv (a:=gT f36 [[0,1],[0,1,5],[0,1,5,9],[0,1,5],[0,1,5],[0,1,5],[0,1,5],[0,1,5],[4]] [(.close [])])
def jR:ak:=⟨27,mkC nw.1,[.tmp 4],.false,.false⟩
def pI:=cv (a:=lp nw.1 0)
def oI:ai:=mkC pI.1
theorem yb:OkF 36 jR:=okq func36
def nF:=cv (a:=gT f37 [[0,1],[0,1,5],[0,1,5,9],[0,1,5,18],[4],[0,1,5],[0,1,5,27],[4],[0,1,5],[0,1,5],[4]] [(.close [])])
def kf:ak:=⟨31,mkC nF.1,[.tmp 4],.false,.false⟩
def oW:=cv (a:=lp nF.1 0)
def oL:ai:=mkC oW.1
theorem z2:OkF 37 kf:=okq func37
def sM:=cv (a:=gT f43 [[1,2],[1,2],[1,2,10],[4],[1],[1,17],[4],[4]])
def jM:ak:=⟨19,mkC sM.1,[.tmp 4],.false,.false⟩
theorem yq:OkF 43 jM:=okq func43
def zr:=cv (a:=gT f44 [[2,4,5,7,8],[2,4,5,7,8,13],[8,9],[2,4,5,7,8,10],[2,4,5,7,8,10,21],[8,9],[8,9]])
def qf:ak:=⟨30,mkC zr.1,[.cell 8 (.some 4),.tmp 9],.false,.false⟩
theorem Ff:OkF 44 qf:=okq func44
def rN:=cv (a:=gT f45 [[0],[0,3],[0,3,4],[0,3,4,11],[0,3,4],[0,3,4],[2]] [(.close [])])
def n7:ak:=⟨22,mkC rN.1,[.tmp 2],.true,.false⟩
def tH:=cv (a:=lp rN.1 0)
def sZ:ai:=mkC tH.1
theorem BN:OkF 45 n7:=okq func45
def qR:=cv (a:=gT f46 [[1,2],[1,2,3],[1,2,3],[1,2,3],[1,2,3],[2,3],[2]])
def iL:ak:=⟨18,mkC qR.1,[.cell 2 (.some 4)],.true,.false⟩
theorem xH:OkF 46 iL:=okq func46
def wm:=cv (a:=gT f47 [[2,4,5,7,8],[2,4,5,7,8,10],[2,4,5,7,8,10,18],[8,9],[2,4,5,8,11],[8,11],[8,9]] [] [(999999,.nilCell 1003 0 999900 2)])
def n9:ak:=⟨29,mkC wm.1,[.cell 8 (.some 4),.tmp 9],.true,.false⟩
theorem Cm:OkF 47 n9:=okq func47
def sr:=cv (a:=gT f48 [[2,3],[2,3,10],[4],[2,3,15],[4],[2,3,20],[4],[25],[4],[4]])
def jH:ak:=⟨26,mkC sr.1,[.tmp 4],.false,.false⟩
theorem yU:OkF 48 jH:=okq func48
def rV:=cv (a:=gT f49 [[0,1],[0,1,10],[4],[0,1,5],[0,1,5,14],[0,1,5,25],[4],[0,1,5],[4]] [(.close [])])
def ne:ak:=⟨26,mkC rV.1,[.tmp 4],.false,.false⟩
def tq:=cv (a:=lp rV.1 0)
def sD:ai:=mkC tq.1
theorem Cp:OkF 49 ne:=okq func49
def nC:=cv (a:=gT f50 [[0,1],[0,1,5],[0,1,5,9],[0,1,5],[0,1,5],[0,1,5],[4]] [(.close [])])
def jS:ak:=⟨19,mkC nC.1,[.tmp 4],.false,.false⟩
def pJ:=cv (a:=lp nC.1 0)
def pb:ai:=mkC pJ.1
theorem y7:OkF 50 jS:=okq func50
def oD:=cv (a:=gT f51 [[1,2],[1],[4]])
def hI:ak:=⟨10,mkC oD.1,[.tmp 4],.false,.false⟩
theorem vi:OkF 51 hI:=okq func51
def oN:=cv (a:=gT f52 [[1,2],[1],[1,10],[4],[4]])
def gG:ak:=⟨12,mkC oN.1,[.tmp 4],.false,.false⟩
theorem uZ:OkF 52 gG:=okq func52
def Lv:=cv (a:=gT f62 [[0,1,2],[6]])
def AO:ak:=⟨15,mkC Lv.1,[.tmp 6],.false,.false⟩
theorem Oa:OkF 62 AO:=okq func62
def uN:=cv (a:=gT f64 [[0],[2]])
def lv:ak:=⟨5,mkC uN.1,[.tmp 2],.false,.false⟩
theorem zW:OkF 64 lv:=okq func64
def qN:=cv (a:=gT f66 [[1,2],[4]])
def iA:ak:=⟨9,mkC qN.1,[.tmp 4],.false,.false⟩
theorem xD:OkF 66 iA:=okq func66
def zn:=cv (a:=gT f67 [[1],[2]])
def qh:ak:=⟨11,mkC zn.1,[.tmp 2],.false,.false⟩
theorem E1:OkF 67 qh:=okq func67
def rg:=cv (a:=gT f71 [[1],[2]])
def iz:ak:=⟨16,mkC rg.1,[.tmp 2],.false,.false⟩
theorem xL:OkF 71 iz:=okq func71
def zq:=cv (a:=gT f72 [[0,1,2],[6]])
def pW:ak:=⟨15,mkC zq.1,[.tmp 6],.false,.false⟩
theorem G3:OkF 72 pW:=okq func72
def zH:=cv (a:=gT f81 [[2,3],[2,3,9],[4],[14],[4],[4]])
def pS:ak:=⟨15,mkC zH.1,[.tmp 4],.false,.false⟩
theorem Fx:OkF 81 pS:=okq func81
def tw:=cv (a:=gT f89 [[0,1],[1],[1,10],[4],[4]])
def k9:ak:=⟨12,mkC tw.1,[.tmp 4],.false,.false⟩
theorem yu:OkF 89 k9:=okq func89
def th:=cv (a:=gT f90 [[1],[2]])
def jJ:ak:=⟨49,mkC th.1,[.tmp 2],.false,.false⟩
theorem yv:OkF 90 jJ:=okq func90
def pu:=cv (a:=gT f91 [[0],[0,3],[0,3,7],[0,3,15],[2],[0,3],[2]] [(.close [5004])])
def lx:ak:=⟨16,mkC pu.1,[.tmp 2],.false,.false⟩
def rK:=cv (a:=lp pu.1 0)
def rE:ai:=mkC rK.1
theorem AM:OkF 91 lx:=okq func91
def nD:=cv (a:=gT f93 [[0],[0,3],[0,3,4],[0,3,4,11],[0,3,4],[0,3,4],[2]] [(.close [6006])])
def kj:ak:=⟨23,mkC nD.1,[.tmp 2],.true,.false⟩
def pp:=cv (a:=lp nD.1 0)
def oU:ai:=mkC pp.1
theorem ye:OkF 93 kj:=okq func93
def ny:=cv (a:=gT f94 [[1],[1,23],[2],[1,25,26],[1,25,26,27],[1,4,25,26],[1,25,26,37],[2],[1,25,26],[2]] [(.close [7007])])
def jZ:ak:=⟨39,mkC ny.1,[.tmp 2],.false,.false⟩
def vR:=cv (a:=lp ny.1 0)
def JF:ai:=mkC vR.1
theorem yW:OkF 94 jZ:=okq func94
def n8:=cv (a:=gT f96 [[0,1],[0,1,10],[4],[0,1,5],[0,1,5,14],[0,1,5,26],[4],[0,1,5],[4]] [(.close [7008])])
def jL:ak:=⟨27,mkC n8.1,[.tmp 4],.false,.false⟩
def oF:=cv (a:=lp n8.1 0)
def oC:ai:=mkC oF.1
theorem yE:OkF 96 jL:=okq func96
def kG:=cv (a:=gT f97 [[0,1],[0,1,5],[0,1,5,9],[0,1,5],[0,1,5],[0,1,5],[0,1,5],[0,1,5],[0,1,5],[0,1,5],[4]] [(.close [])])
def i0:ak:=⟨34,mkC kG.1,[.tmp 4],.false,.false⟩
def mI:=cv (a:=lp kG.1 0)
def ma:ai:=mkC mI.1
theorem vf:OkF 97 i0:=okq func97
def w4:=cv (a:=gT f106 [[2,4,5,7],[2,4,5,7,9],[8],[2,4,7,13],[8],[7,32],[8],[38],[8],[8]])
def nL:ak:=⟨41,mkC w4.1,[.tmp 8],.false,.false⟩
theorem CD:OkF 106 nL:=okq func106
def wV:=cv (a:=gT f107 [[1,2],[1,2],[2]])
def ni:ak:=⟨9,mkC wV.1,[.cell 2 (.some 4)],.false,.false⟩
theorem Cd:OkF 107 ni:=okq func107
def na:=cv (a:=gT f108 [[2,4,5,7,8],[2,7,8,9],[2,7,8,9,10],[2,7,8,9,10,28],[2,7,8,9,10],[2,7,8,9,10],[8]] [(.close [6005])])
def jD:ak:=⟨42,mkC na.1,[.cell 8 (.some 4)],.false,.false⟩
def p6:=cv (a:=lp na.1 0)
def pj:ai:=mkC p6.1
theorem yk:OkF 108 jD:=okq func108
def ru:=cv (a:=gT f109 [[2,4,5,7],[2,4,5,7,9],[8],[2,4,7,13],[8],[7,32],[8],[38],[8],[8]])
def iN:ak:=⟨42,mkC ru.1,[.tmp 8],.false,.false⟩
theorem xC:OkF 109 iN:=okq func109
def kN:=cv (a:=gT f110 [[1,2],[1,2],[2]])
def ej:ak:=⟨8,mkC kN.1,[.cell 2 (.some 4)],.true,.false⟩
theorem qv:OkF 110 ej:=okq func110
def kw:=cv (a:=gT f111 [[]])
def e7:ak:=⟨23,mkC kw.1,[],.false,.false⟩
theorem qr:OkF 111 e7:=okq func111
def lz:=cv (a:=gT f112 [[2,3,4],[2,7],[7,26,27,28],[7,26,27,28,29],[7,9,26,27,28],[7,26,27,28],[7,26,27,28],[6]] [(.close [6002])])
def iG:ak:=⟨37,mkC lz.1,[.tmp 6],.false,.false⟩
def oj:=cv (a:=lp lz.1 0)
def oc:ai:=mkC oj.1
theorem xb:OkF 112 iG:=okq func112
def db:=cv (a:=gT f127 [[0,1],[4]])
def bc:ak:=⟨9,mkC db.1,[.tmp 4],.false,.false⟩
theorem fK:OkF 127 bc:=okq func127
def nY:=cv (a:=gT f128 [[1,2],[3]])
def fT:ak:=⟨8,mkC nY.1,[.tmp 3],.false,.false⟩
theorem um:OkF 128 fT:=okq func128
def zs:=cv (a:=gT f135 [[1],[2]])
def pN:ak:=⟨11,mkC zs.1,[.tmp 2],.false,.false⟩
theorem Ev:OkF 135 pN:=okq func135
def qQ:=cv (a:=gT f136 [[1],[2]])
def iE:ak:=⟨16,mkC qQ.1,[.tmp 2],.false,.false⟩
theorem xJ:OkF 136 iE:=okq func136
def w8:=cv (a:=gT f144 [[0],[2]])
def n6:ak:=⟨6,mkC w8.1,[.tmp 2],.false,.false⟩
theorem CJ:OkF 144 n6:=okq func144
def pq:=cv (a:=gT f152 [[0,1,2],[0,1,2,11],[6],[0,1,2,7],[0,1,2,7,15],[0,1,2,7,8],[0,1,2,7,8,45],[6],[0,1,2,7,80],[6],[0,1,2,7],[6]] [(.close [7004,8006,8015,8021])])
def lc:ak:=⟨81,mkC pq.1,[.tmp 6],.false,.false⟩
def qY:=cv (a:=lp pq.1 0)
def qU:ai:=mkC qY.1
theorem AL:OkF 152 lc:=okq func152
def uA:=cv (a:=gT f154 [[1,2],[1,2,3],[1,2,3],[1,2,3],[2,3],[2]])
def lk:ak:=⟨14,mkC uA.1,[.cell 2 (.some 3)],.false,.false⟩
theorem Bm:OkF 154 lk:=okq func154
def o1:=cv (a:=gT f155 [[1],[2]])
def fV:ak:=⟨7,mkC o1.1,[.tmp 2],.false,.false⟩
theorem u9:OkF 155 fV:=okq func155
def js:=cv (a:=gT f156 [[1,2],[2]])
def dE:ak:=⟨10,mkC js.1,[.cell 2 (.some 3)],.false,.false⟩
theorem oM:OkF 156 dE:=okq func156
def nI:=cv (a:=gT f157 [[0,1,2],[0,1,2,9,10,11],[0,1,2,9,10,11,12],[0,1,2,7,8,9,10,11],[0,1,2,9,10,11,49],[6],[0,1,2,9,10,11],[6]] [(.close [4003,5004,5011,5017,5030])])
def jG:ak:=⟨54,mkC nI.1,[.tmp 6],.false,.false⟩
def oY:=cv (a:=lp nI.1 0)
def pM:ai:=mkC oY.1
theorem y4:OkF 157 jG:=okq func157
def uQ:=cv (a:=gT f159 [[2,3],[2,3,9],[4],[2,3,14],[4],[19],[4],[4]])
def lw:ak:=⟨20,mkC uQ.1,[.tmp 4],.false,.false⟩
theorem A3:OkF 159 lw:=okq func159
def lJ:=cv (a:=gT f162 [[0,1],[0,1,5],[0,5,6],[0,5,6,11],[0,5,6],[0,5,6],[4]] [(.close [6007,6008])])
def iF:ak:=⟨24,mkC lJ.1,[.tmp 4],.false,.false⟩
def of:=cv (a:=lp lJ.1 0)
def nS:ai:=mkC of.1
theorem xA:OkF 162 iF:=okq func162
def xk:=cv (a:=gT f165 [[0,1],[4]])
def mf:ak:=⟨19,mkC xk.1,[.tmp 4],.false,.false⟩
theorem J8:OkF 165 mf:=okq func165
def ly:=cv (a:=gT f166 [[0],[0,3],[0,3,7],[0,3,15],[2],[0,3],[2]] [(.close [5004])])
def iJ:ak:=⟨16,mkC ly.1,[.tmp 2],.false,.false⟩
def nV:=cv (a:=lp ly.1 0)
def ol:ai:=mkC nV.1
theorem xd:OkF 166 iJ:=okq func166
def tC:=cv (a:=gT f167 [[1],[2]])
def jV:ak:=⟨28,mkC tC.1,[.tmp 2],.false,.false⟩
theorem yt:OkF 167 jV:=okq func167
def sH:=cv (a:=gT f168 [[1,2],[4]])
def jE:ak:=⟨17,mkC sH.1,[.tmp 4],.false,.false⟩
theorem yR:OkF 168 jE:=okq func168
def iI:=cv (a:=gT f169 [[1],[1,3],[3,4],[3,4,5],[3,4,5,28],[3,4,5],[3,4,5,6],[3,4,5,6,46],[3,4,5,6,7],[3,4,5,6],[3,4,5,6],[3,4,5],[2]] [(.close [7006,11007,12007,12011]),(.close [11007,12007,12011])])
def iT:ak:=⟨73,mkC iI.1,[.tmp 2],.false,.false⟩
def oh:=cv (a:=lp iI.1 0)
def nR:ai:=mkC oh.1
def o5:=cv (a:=lp iI.1 1)
def ob:ai:=mkC o5.1
theorem xq:OkF 169 iT:=okq func169
def rf:=cv (a:=gT f170 [[1,2,4],[2,4],[2,4],[4]])
def ix:ak:=⟨19,mkC rf.1,[.cell 4 (.some 4)],.false,.false⟩
theorem xf:OkF 170 ix:=okq func170
def uH:=cv (a:=gT f171 [[1,2],[4]])
def lf:ak:=⟨9,mkC uH.1,[.tmp 4],.false,.false⟩
theorem zR:OkF 171 lf:=okq func171
def tD:=cv (a:=gT f172 [[1],[2]])
def ki:ak:=⟨27,mkC tD.1,[.tmp 2],.false,.false⟩
theorem xX:OkF 172 ki:=okq func172
def oq:=cv (a:=gT f173 [[1],[2]])
def fS:ak:=⟨9,mkC oq.1,[.tmp 2],.false,.false⟩
theorem tN:OkF 173 fS:=okq func173
def cK:ai:=(.seq (qS 1000 [qg 2 (.mv (.c (.slice .none 0 0)))] [0]) (.seq (.seq (qS 2000 [qm 3 0,qg 4 (.isNil .false (.t 3))] [0,4]) (.cond (.t 4) (.seq (qS 3000 [qg 2 (.mv (.c (.slice .none 0 0)))] [2]) .ret) .skip)) (.seq (qS 4000 [qg 5 (.buildSlice 2 z0 0 []),qm 6 0,qg 7 (.append 2 16 z0 (.t 5) (.t 6)),qm 2 7] [2]) .ret)))
def aj:ak:=⟨8,cK,[.tmp 2],.true,.false⟩
theorem jh:OkF 174 aj:=okq func174
def mV:ai:=(.seq (qS 4000 [qb 13 .lss 12 11] [3,10,11,12,13]) (.seq (.cond (.t 13) .skip (.exit 0)) (.seq (.block 1 (.seq (qS 5000 [qx 14 1 10 12,ql 15 14,qm 5 15] [3,5,10,11,12]) (qS 6000 [qm 16 3,qm 17 5,qg 18 (.append 1 1 [(.int .u8 0)] (.t 16) (.t 17)),qm 3 18] [3,10,11,12]))) (qS 7000 [qB 19 .add 12 1,qm 12 19] [3,10,11,12]))))
def mT:ai:=(.seq (.seq (qS 9000 [qm 23 3,qn 24 23,qB 25 .rem 24 136,qB 26 .neq 25 0] [3,26]) (.cond (.t 26) .skip (.exit 2))) (.block 3 (qS 10000 [qm 27 3,qg 28 (.buildSlice 1 [(.int .u8 0)] 1 [(0,(.c (.int .u8 0)))]),qg 29 (.append 1 1 [(.int .u8 0)] (.t 27) (.t 28)),qm 3 29] [3])))
def lI:ai:=(.seq (qS 16000 [qB 48 .lss 47 25] [3,6,46,47,48]) (.seq (.cond (.t 48) .skip (.exit 6)) (.seq (.block 7 (.seq (qS 17000 [qm 49 47,qg 50 (.ixAgg 25 1 .none (.t 46) (.t 47)),qm 7 49,qm 8 50] [3,6,7,8,46,47]) (qS 18000 [qm 51 7,qX 52 25 1 6 51,ql 53 52,qm 54 8,qb 55 .xor 53 54,qX 56 25 1 6 51,qu 1 56 55] [3,6,46,47]))) (qS 19000 [qB 57 .add 47 1,qm 47 57] [3,6,46,47]))))
def lG:ai:=(.seq (.seq (qS 13000 [qm 39 3,qn 40 39,qB 41 .gtr 40 0] [3,6,41]) (.cond (.t 41) .skip (.exit 4))) (.seq (.block 5 (.seq (.seq (qS 15000 [qm 44 3,qg 45 (.slice 1 (.t 44) .none (.some (qI 136)) .none),qc 46 204 [45],qi 47 0] [3,6,46,47]) (.block 6 (.loop (fP (.close []) lI)))) (qS 20000 [qc 58 205 [6]] [3,6]))) (qS 14000 [qm 42 3,qg 43 (.slice 1 (.t 42) (.some (qI 136)) .none .none),qm 3 43] [3,6])))
def we:ai:=(.seq (qS 1000 [qg 2 (.mv (.c (.string ⟨⟨[]⟩⟩)))] [0]) (.seq (qS 2000 [qg 9 (.buildSlice 1 [(.int .u8 0)] 0 []),qm 3 9] [0,3]) (.seq (.seq (qS 3000 [qm 10 0,qn 11 10,qi 12 0] [3,10,11,12]) (.block 0 (.loop (fP (.close [6002]) mV)))) (.seq (qS 8000 [qm 20 3,qg 21 (.buildSlice 1 [(.int .u8 0)] 1 [(0,(.c (.int .u8 1)))]),qg 22 (.append 1 1 [(.int .u8 0)] (.t 20) (.t 21)),qm 3 22] [3]) (.seq (.block 2 (.loop (fP (.close [10001,10002]) mT))) (.seq (qS 11000 [qm 30 3,qm 31 3,qn 32 31,qB 33 .sub 32 1,qx 34 1 30 33,ql 35 34,qg 36 (.bin .or (.t 35) (.c (.int .u8 128))),qx 37 1 30 33,qu 1 37 36] [3]) (.seq (qS 12000 [qg 38 (.build (zar .u64 25) []),qg 6 (.alloc (zar .u64 25)),qu 25 6 38] [3,6]) (.seq (.block 4 (.loop (fP (.close [15002,20000,2000]) lG))) (.seq (qS 21000 [qc 59 206 [6],qg 60 (.slice 1 (.t 59) .none (.some (qI 32)) .none),qg 61 (.toStr (.t 60)),qm 2 61] [2]) .ret)))))))))
def mZ:ak:=⟨62,we,[.tmp 2],.false,.false⟩
theorem Cc:OkF 175 mZ:=okq func175
def dh:=cv (a:=gT f176 [[1],[1,3],[3,22,23],[3,22,23,24],[3,5,22,23],[3,5,22,23],[3,22,23,30,31,32],[3,22,23,30,31,32,33],[3,7,22,23,30,31,32],[3,22,23,30,31,32],[3,22,23,30,31,32],[3,22,23],[2]] [(.close [6003,9002,10007,10008,10011]),(.close [9002,10007,10008,10011])])
def di:ak:=⟨51,mkC dh.1,[.tmp 2],.false,.false⟩
def ml:=cv (a:=lp dh.1 0)
def zI:ai:=mkC ml.1
def cw:=cv (a:=lp dh.1 1)
def bk:ai:=mkC cw.1
theorem nh:OkF 176 di:=okq func176
def cf:=cv (a:=gT f184 [[0,1],[0,1,7,8],[0,1,7,8,9],[0,1,5,7,8],[0,1,5,7,8,16],[4],[0,1,7,8],[4]] [(.close [5005])])
def bo:ak:=⟨19,mkC cf.1,[.tmp 4],.false,.false⟩
def dl:=cv (a:=lp cf.1 0)
def dk:ai:=mkC dl.1
theorem gH:OkF 184 bo:=okq func184
def uI:=cv (a:=gT f186 [[0],[2]])
def ln:ak:=⟨5,mkC uI.1,[.tmp 2],.false,.false⟩
theorem A2:OkF 186 ln:=okq func186
def oe:=cv (a:=gT f197 [[2,3],[4]])
def fZ:ak:=⟨17,mkC oe.1,[.tmp 4],.false,.false⟩
theorem tX:OkF 197 fZ:=okq func197
def lF:ai:=(.seq (.seq (qS 3000 [qm 12 3,qn 13 12,qB 14 .rem 13 136,qB 15 .neq 14 0] [3,15]) (.cond (.t 15) .skip (.exit 0))) (.block 1 (qS 4000 [qm 16 3,qg 17 (.buildSlice 1 [(.int .u8 0)] 1 [(0,(.c (.int .u8 0)))]),qg 18 (.append 1 1 [(.int .u8 0)] (.t 16) (.t 17)),qm 3 18] [3])))
def kM:ai:=(.seq (.seq (qS 12000 [qm 41 7,qB 42 .lss 41 25] [3,4,5,6,7,42]) (.cond (.t 42) .skip (.exit 4))) (.seq (.block 5 (.drawn 14000 [qm 45 7,qX 46 25 1 4 45,ql 47 46,qm 48 7,qX 49 25 1 6 48,ql 50 49,qb 51 .xor 47 50,qX 52 25 1 4 45,qu 1 52 51] [[],[0],[1,0],[],[3],[4,3],[2,1,0,5,4,3],[0,1,2,3,4,5,6],[7,0,1,2,3,4,5,6]] [3,4,5,6,7])) (qS 13000 [qm 43 7,qB 44 .add 43 1,qm 7 44] [3,4,5,6,7])))
def lN:ai:=(.seq (.seq (qS 8000 [qm 28 5,qm 29 3,qn 30 29,qb 31 .lss 28 30] [3,4,5,31]) (.cond (.t 31) .skip (.exit 2))) (.seq (.block 3 (.seq (qS 10000 [qm 34 3,qm 35 5,qm 36 5,qB 37 .add 36 136,qg 38 (.slice 1 (.t 34) (.some (.t 35)) (.some (.t 37)) .none),qg 39 (.toStr (.t 38)),qc 40 216 [39],qg 6 (.alloc (zar .u64 25)),qu 25 6 40] [3,4,5,6]) (.seq (.seq (qS 11000 [qi 7 0] [3,4,5,6,7]) (.block 4 (.loop (fP (.close []) kM)))) (qS 15000 [qL 53 25 4,qc 54 217 [53],qu 25 4 54] [3,4,5])))) (qS 9000 [qm 32 5,qB 33 .add 32 136,qm 5 33] [3,4,5])))
def ux:ai:=(.seq (qS 1000 [qg 2 (.mv (.c (.string ⟨⟨[]⟩⟩)))] [0]) (.seq (qS 2000 [qm 8 0,qg 9 (.toBytes (.t 8)),qg 10 (.buildSlice 1 [(.int .u8 0)] 1 [(0,(.c (.int .u8 1)))]),qg 11 (.append 1 1 [(.int .u8 0)] (.t 9) (.t 10)),qm 3 11] [3]) (.seq (.block 0 (.loop (fP (.close [4001,4002]) lF))) (.seq (qS 5000 [qm 19 3,qm 20 3,qn 21 20,qB 22 .sub 21 1,qx 23 1 19 22,ql 24 23,qg 25 (.bin .or (.t 24) (.c (.int .u8 128))),qx 26 1 19 22,qu 1 26 25] [3]) (.seq (qS 6000 [qg 27 (.build (zar .u64 25) []),qg 4 (.alloc (zar .u64 25)),qu 25 4 27] [3,4]) (.seq (.seq (qS 7000 [qi 5 0] [3,4,5]) (.block 2 (.loop (fP (.close [10006,10007,15001,2001]) lN)))) (.seq (qS 16000 [qL 55 25 4,qg 56 (.call 218 [(.t 55),(qI 32)]),qm 2 56] [2]) .ret)))))))
def lm:ak:=⟨57,ux,[.tmp 2],.false,.false⟩
theorem AA:OkF 201 lm:=okq func201
def dG:=cv (a:=gT f202 [[0,1],[4]])
def bw:ak:=⟨9,mkC dG.1,[.tmp 4],.false,.false⟩
theorem i5:OkF 202 bw:=okq func202
def qW:=cv (a:=gT f203 [[0,1],[3]])
def iD:ak:=⟨8,mkC qW.1,[.tmp 3],.false,.false⟩
theorem wO:OkF 203 iD:=okq func203
def lD:ai:=(.seq (qS 4000 [qb 10 .lss 9 8] [2,3,7,8,9,10]) (.seq (.cond (.t 10) .skip (.exit 0)) (.seq (.block 1 (.seq (qS 5000 [qm 11 9,qx 12 1 7 9,ql 13 12,qm 4 11,qm 5 13] [2,3,4,5,7,8,9]) (.drawn 6000 [qm 14 4,qB 15 .quo 14 8,qX 16 25 1 3 15,ql 17 16,qm 18 5,qg 19 (.toInt .u64 (.t 18)),qm 20 4,qB 21 .rem 20 8,qD 22 .mul 8 21,qb 23 .shl 19 22,qb 24 .or 17 23,qX 25 25 1 3 15,qu 1 25 24] [[],[0],[1,0],[2,1,0],[],[4],[],[6],[7,6],[5,4,8,7,6],[3,2,1,0,9,5,4,8,7,6],[1,0,2,3,4,5,6,7,8,9,10],[11,1,0,2,3,4,5,6,7,8,9,10]] [2,3,7,8,9]))) (qS 7000 [qB 26 .add 9 1,qm 9 26] [2,3,7,8,9]))))
def uO:ai:=(.seq (qS 1000 [qg 2 (.alloc (zar .u64 25))] [0,2]) (.seq (qS 2000 [qg 6 (.build (zar .u64 25) []),qg 3 (.alloc (zar .u64 25)),qu 25 3 6] [0,2,3]) (.seq (.seq (qS 3000 [qm 7 0,qn 8 7,qi 9 0] [2,3,7,8,9]) (.block 0 (.loop (fP (.close []) lD)))) (.seq (qS 8000 [qL 27 25 3,qu 25 2 27] [2]) .ret))))
def ld:ak:=⟨28,uO,[.cell 2 (.some 25)],.false,.false⟩
theorem Bg:OkF 204 ld:=okq func204
def fD:ai:=(.seq (qS 8000 [qB 28 .lss 27 25] [0,2,5,6,7,20,21,26,27,28]) (.seq (.cond (.t 28) .skip (.exit 2)) (.seq (.block 3 (.seq (.drawn 9000 [qm 29 27,qk 30 26,qX 31 25 1 30 27,ql 32 31,qm 8 29,qm 9 32] [[],[],[1],[2,1],[0],[3,2,1,4,0]] [0,2,5,6,7,8,9,20,21,26,27]) (qS 10000 [qm 33 8,qB 34 .rem 33 5,qX 35 5 1 6 34,ql 36 35,qm 37 9,qb 38 .xor 36 37,qX 39 5 1 6 34,qu 1 39 38] [0,2,5,6,7,20,21,26,27]))) (qS 11000 [qB 40 .add 27 1,qm 27 40] [0,2,5,6,7,20,21,26,27]))))
def fb:ai:=(.seq (qS 13000 [qB 43 .lss 42 25] [0,2,5,6,7,20,21,41,42,43]) (.seq (.cond (.t 43) .skip (.exit 4)) (.seq (.block 5 (.seq (.drawn 14000 [qm 44 42,qk 45 41,qX 46 25 1 45 42,ql 47 46,qm 10 44,qm 11 47] [[],[],[1],[2,1],[0],[3,2,1,4,0]] [0,2,5,6,7,10,11,20,21,41,42]) (.seq (qS 15000 [qm 48 10,qB 49 .rem 48 5,qm 50 10,qB 51 .quo 50 5,qm 12 49,qm 13 51] [0,2,5,6,7,10,11,12,13,20,21,41,42]) (.seq (.drawn 16000 [qm 52 11,qm 53 12,qB 54 .add 53 4,qB 55 .rem 54 5,qX 56 5 1 6 55,ql 57 56,qm 58 12,qB 59 .add 58 1,qB 60 .rem 59 5,qX 61 5 1 6 60,ql 62 61,qg 63 (.call 220 [(.t 62),(qI 1)]),qb 64 .xor 57 63,qb 65 .xor 52 64,qm 11 65] [[],[],[1],[2,1],[3,2,1],[4,3,2,1],[],[6],[7,6],[8,7,6],[9,8,7,6],[10,9,8,7,6],[5,4,3,2,1,11,10,9,8,7,6],[0,12,5,4,3,2,1,11,10,9,8,7,6],[13,0,12,5,4,3,2,1,11,10,9,8,7,6]] [0,2,5,6,7,10,11,12,13,20,21,41,42]) (qS 17000 [qm 66 13,qm 67 12,qD 68 .mul 2 67,qm 69 13,qD 70 .mul 3 69,qb 71 .add 68 70,qB 72 .rem 71 5,qD 73 .mul 5 72,qb 74 .add 66 73,qm 75 11,qm 76 10,qX 77 25 1 2 76,ql 78 77,qc 79 220 [75,78],qX 80 25 1 7 74,qu 1 80 79] [0,2,5,6,7,20,21,41,42]))))) (qS 18000 [qB 81 .add 42 1,qm 42 81] [0,2,5,6,7,20,21,41,42]))))
def eW:ai:=(.seq (qS 20000 [qB 84 .lss 83 25] [0,2,5,7,20,21,82,83,84]) (.seq (.cond (.t 84) .skip (.exit 6)) (.seq (.block 7 (.seq (qS 21000 [qm 85 83,qg 86 (.ixAgg 25 1 .none (.t 82) (.t 83)),qm 14 85,qm 15 86] [0,2,5,7,14,15,20,21,82,83]) (.seq (qS 22000 [qm 87 14,qB 88 .rem 87 5,qm 89 14,qm 90 14,qB 91 .rem 90 5,qb 92 .sub 89 91,qm 16 88,qm 17 92] [0,2,5,7,14,15,16,17,20,21,82,83]) (.drawn 23000 [qm 93 0,qm 94 14,qm 95 15,qm 96 17,qm 97 16,qB 98 .add 97 2,qB 99 .rem 98 5,qb 100 .add 96 99,qX 101 25 1 7 100,ql 102 101,qm 103 17,qm 104 16,qB 105 .add 104 1,qB 106 .rem 105 5,qb 107 .add 103 106,qX 108 25 1 7 107,ql 109 108,qb 110 .andNot 102 109,qb 111 .xor 95 110,qk 112 93,qX 113 25 1 112 94,qu 1 113 111] [[],[],[],[],[],[4],[5,4],[3,6,5,4],[7,3,6,5,4],[8,7,3,6,5,4],[],[],[11],[12,11],[10,13,12,11],[14,10,13,12,11],[15,14,10,13,12,11],[9,8,7,3,6,5,4,16,15,14,10,13,12,11],[2,17,9,8,7,3,6,5,4,16,15,14,10,13,12,11],[0],[19,0,1,2,3,4,5,6,7,8,9,10,11,12,13,14,15,16,17,18],[20,19,0,1,2,3,4,5,6,7,8,9,10,11,12,13,14,15,16,17,18]] [0,2,5,7,20,21,82,83])))) (qS 24000 [qB 114 .add 83 1,qm 83 114] [0,2,5,7,20,21,82,83]))))
def fF:ai:=(.seq (qS 4000 [qB 22 .lss 21 24] [0,2,20,21,22]) (.seq (.cond (.t 22) .skip (.exit 0)) (.seq (.block 1 (.seq (qS 5000 [qg 23 (.ixAgg 24 1 .none (.t 20) (.t 21)),qm 5 23] [0,2,5,20,21]) (.seq (qS 6000 [qg 24 (.build (zar .u64 5) []),qg 25 (.build (zar .u64 25) []),qg 6 (.alloc (zar .u64 5)),qg 7 (.alloc (zar .u64 25)),qu 5 6 24,qu 25 7 25] [0,2,5,6,7,20,21]) (.seq (.seq (qS 7000 [qm 26 0,qi 27 0] [0,2,5,6,7,20,21,26,27]) (.block 2 (.loop (fP (.close []) fD)))) (.seq (.seq (qS 12000 [qm 41 0,qi 42 0] [0,2,5,6,7,20,21,41,42]) (.block 4 (.loop (fP (.close [16011,17013]) fb)))) (.seq (.seq (qS 19000 [qL 82 25 7,qi 83 0] [0,2,5,7,20,21,82,83]) (.block 6 (.loop (fP (.close []) eW)))) (.drawn 25000 [qm 115 0,qk 116 115,qg 117 (.idxArr 25 1 (.t 116) (qI 0)),ql 118 117,qm 119 5,qb 120 .xor 118 119,qk 121 115,qg 122 (.idxArr 25 1 (.t 121) (qI 0)),qu 1 122 120] [[],[0],[1,0],[2,1,0],[],[3,2,1,0,4],[0],[6,0,1,2,3,4,5],[7,6,0,1,2,3,4,5]] [0,2,20,21]))))))) (qS 26000 [qB 123 .add 21 1,qm 21 123] [0,2,20,21]))))
def lb:ai:=(.seq (qS 1000 [qg 18 (.build (zar .i64 25) (tR .i64 0 [0,1,62,28,27,36,44,6,55,20,3,10,43,25,39,41,45,15,21,8,18,2,61,56,14])),qg 2 (.alloc (zar .i64 25)),qu 25 2 18] [0,2]) (.seq (qS 2000 [qg 19 (.build (zar .u64 24) (tR .u64 0 [1,32898,9223372036854808714,9223372039002292224,32907,2147483649,9223372039002292353,9223372036854808585,138,136,2147516425,2147483658,2147516555,9223372036854775947,9223372036854808713,9223372036854808579,9223372036854808578,9223372036854775936,32778,9223372039002259466,9223372039002292353,9223372036854808704,2147483649,9223372039002292232])),qg 3 (.alloc (zar .u64 24)),qu 24 3 19] [0,2,3]) (.seq (qS 3000 [qL 20 24 3,qi 21 0] [0,2,20,21]) (.block 0 (.loop (fP (.close [6002,6003,16011,17013]) fF))))))
def eO:ak:=⟨124,lb,[],.false,.false⟩
theorem sf:OkF 205 eO:=okq func205
def kx:=cv (a:=gT f206 [[0],[0,3],[0,3,6],[0,3,6,7],[0,3,4,6],[0,3,6],[0,3,6],[2]] [(.close [6012,6013])])
def gI:ak:=⟨25,mkC kx.1,[.tmp 2],.false,.false⟩
def m0:=cv (a:=lp kx.1 0)
def lV:ai:=mkC m0.1
theorem vj:OkF 206 gI:=okq func206
def nr:=cv (a:=gT f214 [[0],[0,3],[3,6,7,8],[3,6,7,8,9],[3,5,6,7,8],[3,5,6,7,8,14],[2],[3,6,7,8],[2]] [(.close [])])
def jN:ak:=⟨18,mkC nr.1,[.tmp 2],.false,.false⟩
def oA:=cv (a:=lp nr.1 0)
def pr:ai:=mkC oA.1
theorem y8:OkF 214 jN:=okq func214
def lj:=cv (a:=gT f215 [[0,1],[0,1,5],[0,1,5,6],[0,1,6,11],[12],[4],[4],[0,1,13],[4],[0,1,16],[4],[19],[4],[4]])
def eF:ak:=⟨20,mkC lj.1,[.tmp 4],.false,.false⟩
theorem rL:OkF 215 eF:=okq func215
def kS:ai:=(.seq (.seq (qS 4000 [qm 6 4,qm 7 0,qg 8 (.len .true (.t 7)),qb 9 .lss 6 8] [0,2,3,4,9]) (.cond (.t 9) .skip (.exit 0))) (.seq (.block 1 (.drawn 6000 [qm 12 4,qB 13 .quo 12 8,qX 14 25 1 3 13,ql 15 14,qm 16 0,qm 17 4,qg 18 (.ixStr (.t 16) (.t 17)),qg 19 (.toInt .u64 (.t 18)),qm 20 4,qB 21 .rem 20 8,qD 22 .mul 8 21,qg 23 (.toInt .u64 (.t 22)),qb 24 .shl 19 23,qb 25 .or 15 24,qX 26 25 1 3 13,qu 1 26 25] [[],[0],[1,0],[2,1,0],[],[],[4,5],[6,4,5],[],[8],[9,8],[10,9,8],[7,6,4,5,11,10,9,8],[3,2,1,0,12,7,6,4,5,11,10,9,8],[1,0,2,3,4,5,6,7,8,9,10,11,12,13],[14,1,0,2,3,4,5,6,7,8,9,10,11,12,13]] [0,2,3,4])) (qS 5000 [qm 10 4,qB 11 .add 10 1,qm 4 11] [0,2,3,4])))
def ta:ai:=(.seq (qS 1000 [qg 2 (.alloc (zar .u64 25))] [0,2]) (.seq (qS 2000 [qg 5 (.build (zar .u64 25) []),qg 3 (.alloc (zar .u64 25)),qu 25 3 5] [0,2,3]) (.seq (.seq (qS 3000 [qi 4 0] [0,2,3,4]) (.block 0 (.loop (fP (.close []) kS)))) (.seq (qS 7000 [qL 27 25 3,qu 25 2 27] [2]) .ret))))
def ke:ak:=⟨28,ta,[.cell 2 (.some 25)],.false,.false⟩
theorem y6:OkF 216 ke:=okq func216
def ie:ai:=(.seq (.seq (qS 9000 [qm 21 7,qB 22 .lss 21 5] [1,2,3,4,5,6,7,22]) (.cond (.t 22) .skip (.exit 2))) (.seq (.block 3 (.drawn 11000 [qm 25 7,qm 26 7,qX 27 25 1 1 26,ql 28 27,qm 29 7,qB 30 .add 29 5,qX 31 25 1 1 30,ql 32 31,qb 33 .xor 28 32,qm 34 7,qB 35 .add 34 10,qX 36 25 1 1 35,ql 37 36,qb 38 .xor 33 37,qm 39 7,qB 40 .add 39 15,qX 41 25 1 1 40,ql 42 41,qb 43 .xor 38 42,qm 44 7,qB 45 .add 44 20,qX 46 25 1 1 45,ql 47 46,qb 48 .xor 43 47,qX 49 5 1 6 25,qu 1 49 48] [[],[],[1],[2,1],[],[4],[5,4],[6,5,4],[3,2,1,7,6,5,4],[],[9],[10,9],[11,10,9],[8,3,2,1,7,6,5,4,12,11,10,9],[],[14],[15,14],[16,15,14],[13,8,3,2,1,7,6,5,4,12,11,10,9,17,16,15,14],[],[19],[20,19],[21,20,19],[18,13,8,3,2,1,7,6,5,4,12,11,10,9,17,16,15,14,22,21,20,19],[0,1,2,3,4,5,6,7,8,9,10,11,12,13,14,15,16,17,18,19,20,21,22,23],[24,0,1,2,3,4,5,6,7,8,9,10,11,12,13,14,15,16,17,18,19,20,21,22,23]] [1,2,3,4,5,6,7])) (qS 10000 [qm 23 7,qB 24 .add 23 1,qm 7 24] [1,2,3,4,5,6,7])))
def hJ:ai:=(.seq (.seq (qS 13000 [qm 50 8,qB 51 .lss 50 25] [1,2,3,4,5,6,8,51]) (.cond (.t 51) .skip (.exit 4))) (.seq (.block 5 (.drawn 15000 [qm 54 8,qX 55 25 1 1 54,ql 56 55,qm 57 8,qB 58 .add 57 4,qB 59 .rem 58 5,qX 60 5 1 6 59,ql 61 60,qm 62 8,qB 63 .add 62 1,qB 64 .rem 63 5,qX 65 5 1 6 64,ql 66 65,qg 67 (.call 225 [(.t 66),(.c (.int .u64 1))]),qb 68 .xor 61 67,qb 69 .xor 56 68,qX 70 25 1 1 54,qu 1 70 69] [[],[0],[1,0],[],[3],[4,3],[5,4,3],[6,5,4,3],[],[8],[9,8],[10,9,8],[11,10,9,8],[12,11,10,9,8],[7,6,5,4,3,13,12,11,10,9,8],[2,1,0,14,7,6,5,4,3,13,12,11,10,9,8],[0,1,2,3,4,5,6,7,8,9,10,11,12,13,14,15],[16,0,1,2,3,4,5,6,7,8,9,10,11,12,13,14,15]] [1,2,3,4,5,6,8])) (qS 14000 [qm 52 8,qB 53 .add 52 1,qm 8 53] [1,2,3,4,5,6,8])))
def hU:ai:=(.seq (.seq (qS 21000 [qm 76 11,qB 77 .lss 76 5] [1,2,3,4,5,9,10,11,77]) (.cond (.t 77) .skip (.exit 8))) (.seq (.block 9 (.drawn 23000 [qm 80 11,qm 81 10,qD 82 .mul 2 81,qm 83 11,qD 84 .mul 3 83,qb 85 .add 82 84,qB 86 .rem 85 5,qD 87 .mul 5 86,qb 88 .add 80 87,qm 89 10,qm 90 11,qD 91 .mul 5 90,qb 92 .add 89 91,qX 93 25 1 1 92,ql 94 93,qm 95 10,qm 96 11,qD 97 .mul 5 96,qb 98 .add 95 97,qX 99 25 1 4 98,ql 100 99,qc 101 225 [94,100],qX 102 25 1 9 88,qu 1 102 101] [[],[],[1],[],[3],[2,1,4,3],[5,2,1,4,3],[6,5,2,1,4,3],[0,7,6,5,2,1,4,3],[],[],[10],[9,11,10],[12,9,11,10],[13,12,9,11,10],[],[],[16],[15,17,16],[18,15,17,16],[19,18,15,17,16],[14,13,12,9,11,10,20,19,18,15,17,16],[8,0,7,6,5,2,1,4,3,9,10,11,12,13,14,15,16,17,18,19,20,21],[22,8,0,7,6,5,2,1,4,3,9,10,11,12,13,14,15,16,17,18,19,20,21]] [1,2,3,4,5,9,10,11])) (qS 22000 [qm 78 11,qB 79 .add 78 1,qm 11 79] [1,2,3,4,5,9,10,11])))
def gZ:ai:=(.seq (.seq (qS 18000 [qm 72 10,qB 73 .lss 72 5] [1,2,3,4,5,9,10,73]) (.cond (.t 73) .skip (.exit 6))) (.seq (.block 7 (.seq (qS 20000 [qi 11 0] [1,2,3,4,5,9,10,11]) (.block 8 (.loop (fP (.close [23021]) hU))))) (qS 19000 [qm 74 10,qB 75 .add 74 1,qm 10 75] [1,2,3,4,5,9,10])))
def gY:ai:=(.seq (.seq (qS 28000 [qm 107 13,qB 108 .lss 107 5] [1,2,3,4,5,9,12,13,108]) (.cond (.t 108) .skip (.exit 12))) (.seq (.block 13 (.drawn 30000 [qm 111 12,qm 112 13,qD 113 .mul 5 112,qb 114 .add 111 113,qm 115 12,qm 116 13,qD 117 .mul 5 116,qb 118 .add 115 117,qX 119 25 1 9 118,ql 120 119,qm 121 12,qB 122 .add 121 1,qB 123 .rem 122 5,qm 124 13,qD 125 .mul 5 124,qb 126 .add 123 125,qX 127 25 1 9 126,ql 128 127,qg 129 (.un .xor (.t 128)),qm 130 12,qB 131 .add 130 2,qB 132 .rem 131 5,qm 133 13,qD 134 .mul 5 133,qb 135 .add 132 134,qX 136 25 1 9 135,ql 137 136,qb 138 .and 129 137,qb 139 .xor 120 138,qX 140 25 1 1 114,qu 1 140 139] [[],[],[1],[0,2,1],[],[],[5],[4,6,5],[7,4,6,5],[8,7,4,6,5],[],[10],[11,10],[],[13],[12,11,10,14,13],[15,12,11,10,14,13],[16,15,12,11,10,14,13],[17,16,15,12,11,10,14,13],[],[19],[20,19],[],[22],[21,20,19,23,22],[24,21,20,19,23,22],[25,24,21,20,19,23,22],[18,17,16,15,12,11,10,14,13,26,25,24,21,20,19,23,22],[9,8,7,4,6,5,27,18,17,16,15,12,11,10,14,13,26,25,24,21,20,19,23,22],[3,0,2,1,4,5,6,7,8,9,10,11,12,13,14,15,16,17,18,19,20,21,22,23,24,25,26,27,28],[29,3,0,2,1,4,5,6,7,8,9,10,11,12,13,14,15,16,17,18,19,20,21,22,23,24,25,26,27,28]] [1,2,3,4,5,9,12,13])) (qS 29000 [qm 109 13,qB 110 .add 109 1,qm 13 110] [1,2,3,4,5,9,12,13])))
def gV:ai:=(.seq (.seq (qS 25000 [qm 103 12,qB 104 .lss 103 5] [1,2,3,4,5,9,12,104]) (.cond (.t 104) .skip (.exit 10))) (.seq (.block 11 (.seq (qS 27000 [qi 13 0] [1,2,3,4,5,9,12,13]) (.block 12 (.loop (fP (.close []) gY))))) (qS 26000 [qm 105 12,qB 106 .add 105 1,qm 12 106] [1,2,3,4,5,9,12])))
def it:ai:=(.seq (.seq (qS 5000 [qm 16 5,qB 17 .lss 16 24] [1,2,3,4,5,17]) (.cond (.t 17) .skip (.exit 0))) (.seq (.block 1 (.seq (qS 7000 [qg 20 (.build (zar .u64 5) []),qg 6 (.alloc (zar .u64 5)),qu 5 6 20] [1,2,3,4,5,6]) (.seq (.seq (qS 8000 [qi 7 0] [1,2,3,4,5,6,7]) (.block 2 (.loop (fP (.close []) ie)))) (.seq (.seq (qS 12000 [qi 8 0] [1,2,3,4,5,6,8]) (.block 4 (.loop (fP (.close [15013]) hJ)))) (.seq (qS 16000 [qg 71 (.build (zar .u64 25) []),qg 9 (.alloc (zar .u64 25)),qu 25 9 71] [1,2,3,4,5,9]) (.seq (.seq (qS 17000 [qi 10 0] [1,2,3,4,5,9,10]) (.block 6 (.loop (fP (.close [23021]) gZ)))) (.seq (.seq (qS 24000 [qi 12 0] [1,2,3,4,5,9,12]) (.block 10 (.loop (fP (.close []) gV)))) (.drawn 31000 [qg 141 (.idxArr 25 1 (.t 1) (qI 0)),ql 142 141,qm 143 5,qX 144 24 1 3 143,ql 145 144,qb 146 .xor 142 145,qg 147 (.idxArr 25 1 (.t 1) (qI 0)),qu 1 147 146] [[],[0],[],[2],[3,2],[1,0,4,3,2],[0,1,2,3,4,5],[6,0,1,2,3,4,5]] [1,2,3,4,5])))))))) (qS 6000 [qm 18 5,qB 19 .add 18 1,qm 5 19] [1,2,3,4,5])))
def oX:ai:=(.seq (qS 1000 [qg 1 (.box 25 (.t 0)),qg 2 (.alloc (zar .u64 25))] [1,2]) (.seq (qS 2000 [qc 14 223 [],qg 3 (.alloc (zar .u64 24)),qu 24 3 14] [1,2,3]) (.seq (qS 3000 [qc 15 224 [],qg 4 (.alloc (zar .u64 25)),qu 25 4 15] [1,2,3,4]) (.seq (.seq (qS 4000 [qi 5 0] [1,2,3,4,5]) (.block 0 (.loop (fP (.close [7001,15013,16001,23021]) it)))) (.seq (qS 32000 [qL 148 25 1,qu 25 2 148] [2]) .ret)))))
def gL:ak:=⟨149,oX,[.cell 2 (.some 25)],.false,.false⟩
theorem v8:OkF 217 gL:=okq func217
def pD:=cv (a:=gT f218 [[1,2],[1,2,5],[1,2,5,6],[1,2,5,6,10],[1,2,5,6],[1,2,5,6],[4]] [(.close [6011,6012])])
def lr:ak:=⟨28,mkC pD.1,[.tmp 4],.false,.false⟩
def qO:=cv (a:=lp pD.1 0)
def rj:ai:=mkC qO.1
theorem B2:OkF 218 lr:=okq func218
def cJ:=cv (a:=gT f219 [[0,1],[0,1,7,8],[0,1,7,8,9],[0,1,5,7,8],[0,1,5,7,8,16],[4],[0,1,7,8],[4]] [(.close [5005])])
def bQ:ak:=⟨19,mkC cJ.1,[.tmp 4],.false,.false⟩
def dV:=cv (a:=lp cJ.1 0)
def dW:ai:=mkC dV.1
theorem jl:OkF 219 bQ:=okq func219
def fR:=cv (a:=gT f220 [[0,1],[0,5],[4]])
def co:ak:=⟨17,mkC fR.1,[.tmp 4],.false,.false⟩
theorem l9:OkF 220 co:=okq func220
def o6:=cv (a:=gT f222 [[0],[2]])
def fU:ak:=⟨6,mkC o6.1,[.tmp 2],.false,.false⟩
theorem u6:OkF 222 fU:=okq func222
def qT:ai:=(.seq (qS 1000 [qg 0 (.alloc (zar .u64 24))] [0]) (.seq (qS 2000 [qg 1 (.build (zar .u64 24) (tR .u64 0 [1,32898,9223372036854808714,9223372039002292224,32907,2147483649,9223372039002292353,9223372036854808585,138,136,2147516425,2147483658,2147516555,9223372036854775947,9223372036854808713,9223372036854808579,9223372036854808578,9223372036854775936,32778,9223372039002259466,9223372039002292353,9223372036854808704,2147483649,9223372039002292232])),qu 24 0 1] [0]) .ret))
def iK:ak:=⟨2,qT,[.cell 0 (.some 24)],.false,.false⟩
theorem vQ:OkF 223 iK:=okq func223
def rC:ai:=(.seq (qS 1000 [qg 0 (.alloc (zar .u64 25))] [0]) (.seq (qS 2000 [qg 1 (.build (zar .u64 25) (tR .u64 0 [0,1,62,28,27,36,44,6,55,20,3,10,43,25,39,41,45,15,21,8,18,2,61,56,14])),qu 25 0 1] [0]) .ret))
def iC:ak:=⟨2,rC,[.cell 0 (.some 25)],.false,.false⟩
theorem vJ:OkF 224 iC:=okq func224
def uC:=cv (a:=gT f225 [[0,1],[0,1,6],[4],[4]])
def le:ak:=⟨16,mkC uC.1,[.tmp 4],.false,.false⟩
theorem A5:OkF 225 le:=okq func225
end Go.AI.Fn
