/- Part. -/
import Derived.Test.YtdnkignjanfikaaGreatTb0
set_option linter.unusedVariables false
set_option maxRecDepth 100000
set_option maxHeartbeats 2000000
namespace Go.AI.Fn
open Proofs.Tryz
def zN:=cv (a:=gT f231 [[0,3,4],[0,3,4,5],[0,3,4,5,6],[0,3,4,5,6,14],[0,3,4,5,6,7],[0,3,4,5,6,7,8],[0,3,4,5,6,7,8,9],[0,3,4,5,6,7,8,9,24],[0,3,4,5,6,7,8,9,29],[0,3,4,5,6,7,8,9],[0,3,4,5,6,7,8,9],[0,3,4,5,6,7,8,9],[0,3,4,5,6],[0,3,4,5,6],[4]] [(.close [6004,12003,12004,12005,13003,13004,14003,14004,14005,14006]),(.close [12003,12004,12005,13003,13004])])
def Ai:aJ:=⟨49,mkC zN.1,[.cell 4 (.some 2)],.false,.false⟩
def Ig:=cv (a:=lp zN.1 0)
def HD:aQ:=mkC Ig.1
def IC:=cv (a:=lp zN.1 1)
def IV:aQ:=mkC IC.1
theorem X8:OkF 231 Ai:=okq func231
def RX:=cv (a:=gT f232 [[2,3,4],[4]])
def Cq:aJ:=⟨30,mkC RX.1,[.cell 4 (.some 2)],.false,.false⟩
theorem a2l:OkF 232 Cq:=okq func232
def GN:=cv (a:=gT f233 [[0,1,4],[0,1,4,5],[0,1,4,5,6],[0,1,4,5,6,11],[0,1,4,5,6],[0,1,4,5,6],[4]] [(.close [6009,6014,6019,6020,6021,6022])])
def A7:aJ:=⟨38,mkC GN.1,[.cell 4 (.some 2)],.false,.false⟩
def Iw:=cv (a:=lp GN.1 0)
def In:aQ:=mkC Iw.1
theorem Zz:OkF 233 A7:=okq func233
def NR:=cv (a:=gT f234 [[1,2,3],[1,7],[1,8],[6]])
def zJ:aJ:=⟨31,mkC NR.1,[.tmp 6],.false,.false⟩
theorem Zj:OkF 234 zJ:=okq func234
def Do:=cv (a:=gT f235 [[0,1,2,3,4,12,13],[0,1,2,3,4,12,13,15],[0,1,2,3,4,12,13,15,16],[0,1,2,3,4,12,13,15,16,24],[0,1,2,3,4,12,13,15,16,17],[0,1,2,3,4,12,13,15,16,17,18],[0,1,2,3,4,12,13,15,16,17,18],[0,1,2,3,4,12,13,15,16,17,18,19],[0,1,2,3,4,12,13,15,16,17,18,19,20],[0,1,2,3,4,12,13,15,16,17,18,19,20,65],[14],[0,1,2,3,4,12,13,15,16,17,19,20,84],[14],[0,1,3,4,12,13,15,16,17],[0,1,2,3,4,12,13,15,16],[0,1,2,3,4,12,13,15,16],[98],[14],[14]] [(.close [9006,10007,11008,11009,11016,15008])])
def wQ:aJ:=⟨99,mkC Do.1,[.tmp 14],.false,.false⟩
def Gs:=cv (a:=lp Do.1 0)
def GB:aQ:=mkC Gs.1
theorem TC:OkF 235 wQ:=okq func235
def j0:=cv (a:=gT f236 [[0,1],[4]])
def dF:aJ:=⟨9,mkC j0.1,[.tmp 4],.false,.false⟩
theorem oj:OkF 236 dF:=okq func236
def Eu:=cv (a:=gT f237 [[0,1],[3]])
def qC:aJ:=⟨13,mkC Eu.1,[.tmp 3],.false,.false⟩
theorem Mc:OkF 237 qC:=okq func237
def fq:=cv (a:=gT f238 [[0,1],[4]])
def cA:aJ:=⟨9,mkC fq.1,[.tmp 4],.false,.false⟩
theorem ov:OkF 238 cA:=okq func238
def Ca:=cv (a:=gT f239 [[0,1],[3]])
def oF:aJ:=⟨8,mkC Ca.1,[.tmp 3],.false,.false⟩
theorem KA:OkF 239 oF:=okq func239
def is:=cv (a:=gT f240 [[0,1],[4]])
def dp:aJ:=⟨9,mkC is.1,[.tmp 4],.false,.false⟩
theorem nD:OkF 240 dp:=okq func240
def zB:=cv (a:=gT f241 [[1,2],[3]])
def nl:aJ:=⟨8,mkC zB.1,[.tmp 3],.false,.false⟩
theorem Jw:OkF 241 nl:=okq func241
def AW:=cv (a:=gT f242 [[0],[0,3],[0,3,7],[0,3,15],[2],[0,3],[2]] [(.close [5004])])
def uA:aJ:=⟨16,mkC AW.1,[.tmp 2],.false,.false⟩
def EM:=cv (a:=lp AW.1 0)
def EA:aQ:=mkC EM.1
theorem Rk:OkF 242 uA:=okq func242
def SO:=cv (a:=gT f243 [[0,1],[4]])
def Dx:aJ:=⟨9,mkC SO.1,[.tmp 4],.false,.false⟩
theorem a3z:OkF 243 Dx:=okq func243
def T2:=cv (a:=gT f244 [[0,1],[4]])
def Dc:aJ:=⟨10,mkC T2.1,[.tmp 4],.false,.false⟩
theorem a1m:OkF 244 Dc:=okq func244
def Rd:=cv (a:=gT f245 [[0,1],[4]])
def DB:aJ:=⟨9,mkC Rd.1,[.tmp 4],.false,.false⟩
theorem a0A:OkF 245 DB:=okq func245
def ll:=cv (a:=gT f247 [[0,1],[4]])
def fc:aJ:=⟨9,mkC ll.1,[.tmp 4],.false,.false⟩
theorem sI:OkF 247 fc:=okq func247
def I6:=cv (a:=gT f248 [[0,1],[3]])
def tU:aJ:=⟨8,mkC I6.1,[.tmp 3],.false,.false⟩
theorem Sk:OkF 248 tU:=okq func248
def Dt:=cv (a:=gT f250 [[2,4,5,7,8],[2,7,8,9],[2,7,8,9,10],[2,7,8,9,10,28],[2,7,8,9,10],[2,7,8,9,10],[8]] [(.close [6005])])
def xu:aJ:=⟨42,mkC Dt.1,[.cell 8 (.some 4)],.false,.false⟩
def Ga:=cv (a:=lp Dt.1 0)
def Gm:aQ:=mkC Ga.1
theorem Tr:OkF 250 xu:=okq func250
def Gu:=cv (a:=gT f251 [[0,1],[0,5],[0,5,6],[0,5,6,12],[0,5,6],[0,5,6],[4]] [(.close [6006])])
def Af:aJ:=⟨24,mkC Gu.1,[.tmp 4],.false,.false⟩
def Iu:=cv (a:=lp Gu.1 0)
def Ic:aQ:=mkC Iu.1
theorem Zr:OkF 251 Af:=okq func251
def uT:=cv (a:=gT f252 [[1,2,3],[1,2,7],[1,2,7,8],[1,2,7,8],[1,2,7,8,9],[1,2,7,8,9,24],[1,2,7,8,9],[1,2,7,8,9],[2,7,8,10],[2,7,8,10,38],[2,7,8,10],[2,7,8,10],[6]] [(.close []),(.close [])])
def u3:aJ:=⟨51,mkC uT.1,[.tmp 6],.false,.false⟩
def Ew:=cv (a:=lp uT.1 0)
def Er:aQ:=mkC Ew.1
def Ea:=cv (a:=lp uT.1 1)
def Ez:aQ:=mkC Ea.1
theorem Rp:OkF 252 u3:=okq func252
def Fa:=cv (a:=gT f253 [[1,2,4],[1,2,4,6],[1,2,4,6,7],[1,2,4,6,7,13],[1,2,4,6,7,8,9],[1,2,4,6,7,9],[1,2,4,6,7],[1,2,4,6,7],[4,5]] [(.close [6001,6005,6006,8002,8003])])
def zx:aJ:=⟨28,mkC Fa.1,[.cell 4 (.some 4),.tmp 5],.false,.false⟩
def J0:=cv (a:=lp Fa.1 0)
def HV:aQ:=mkC J0.1
theorem Xg:OkF 253 zx:=okq func253
def xb:=cv (a:=gT f256 [[1,2,3],[1,2,3,7],[2,3,7,8],[2,7,8,9],[2,7,8,9,10],[2,7,8,9,10,28],[2,7,8,9,10,11],[2,7,8,9,10,11,37],[2,7,8,9,10,11,12],[2,7,8,9,10,11],[2,7,8,9,10,11],[2,7,8,9,10],[6]] [(.close [11007,12014,12020,12021,12022]),(.close [11007,12014,12020,12021,12022])])
def xy:aJ:=⟨72,mkC xb.1,[.tmp 6],.false,.false⟩
def Fq:=cv (a:=lp xb.1 0)
def Gl:aQ:=mkC Fq.1
def Gp:=cv (a:=lp xb.1 1)
def F6:aQ:=mkC Gp.1
theorem Up:OkF 256 xy:=okq func256
def MS:=cv (a:=gT f257 [[0,1,4],[0,4,5],[0,4,5,6],[0,4,5,6,7],[0,4,5,6,7,14],[0,4,5,6,7],[0,4,5,6,7],[4]] [(.close [7009,7010])])
def GW:aJ:=⟨29,mkC MS.1,[.cell 4 (.some 2)],.false,.false⟩
def Nr:=cv (a:=lp MS.1 0)
def Ni:aQ:=mkC Nr.1
theorem a6o:OkF 257 GW:=okq func257
def Gz:=cv (a:=gT f258 [[1],[1,4],[1,4,5],[1,4,5,6],[1,4,5,6,7],[1,4,5,6,7,8],[1,4,5,6,7,8,9],[1,4,5,6,7,8,9,21],[1,4,5,6,7,8,9,30],[1,4,5,6,7,8,9],[1,4,5,6,7,8,9],[1,4,5,6,7,8,9],[1,4,5,6,7,8,9],[1,4,5,6,7,8,9],[2,3]] [(.close [12002,12003,13004,13005])])
def zm:aJ:=⟨47,mkC Gz.1,[.tmp 2,.tmp 3],.false,.false⟩
def II:=cv (a:=lp Gz.1 0)
def HF:aQ:=mkC II.1
theorem WR:OkF 258 zm:=okq func258
def CO:=cv (a:=gT f259 [[0,1,2,3],[0,1,2,3,9],[0,1,2,3,9,35],[0,1,2,3,9],[0,1,2,3,9,59],[0,1,2,9,10],[0,1,2,9,10,11],[0,1,2,9,10,11,75],[0,9,11],[8],[8]] [(.close [])])
def xx:aJ:=⟨103,mkC CO.1,[.tmp 8],.false,.false⟩
def FZ:=cv (a:=lp CO.1 0)
def FL:aQ:=mkC FZ.1
theorem UH:OkF 259 xx:=okq func259
def NZ:=cv (a:=gT f260 [[1,2],[1,2,9],[4],[1,2,5],[2,52],[4],[2,55],[4],[4]])
def A5:aJ:=⟨62,mkC NZ.1,[.tmp 4],.false,.false⟩
theorem Y7:OkF 260 A5:=okq func260
def LQ:=cv (a:=gT f261 [[1],[2]])
def wI:aJ:=⟨49,mkC LQ.1,[.tmp 2],.false,.false⟩
theorem Us:OkF 261 wI:=okq func261
def D4:=cv (a:=gT f262 [[0],[0,3],[0,3,4],[0,3,4,9],[0,3,4],[0,3,4],[2]] [(.close [6006,6007,6013,6014])])
def wO:aJ:=⟨28,mkC D4.1,[.tmp 2],.false,.false⟩
def GD:=cv (a:=lp D4.1 0)
def F0:aQ:=mkC GD.1
theorem TO:OkF 262 wO:=okq func262
def AZ:=cv (a:=gT f268 [[0,2,3,6,9,11,12],[0,2,3,6,9,11,12,22],[10,11,12,13],[0,2,3,6,9,11,12,14],[0,2,3,6,9,11,12,14,15],[0,2,3,6,9,11,12,14,15,29],[0,2,3,6,9,11,12,14,15,16],[0,2,3,6,9,11,12,14,15,16,41],[10,11,12,13],[0,2,3,6,9,11,12,14,15,16,53],[10,11,12,13],[0,2,3,6,9,11,12,14,15,16],[0,2,3,6,9,11,12,14,15,16,17,18],[0,2,3,6,9,11,12,14,15,16,18],[0,2,3,6,9,11,12,14,15,18],[0,2,3,6,9,11,12,14,15],[0,2,3,6,9,11,12,14,15],[10,11,12,13]] [(.close [9003,10000,11006,12000,13002,14001,14005,14006,16002,17002,17003])])
def uJ:aJ:=⟨76,mkC AZ.1,[.tmp 10,.cell 11 (.some 2),.cell 12 (.some 4),.tmp 13],.false,.false⟩
def E8:=cv (a:=lp AZ.1 0)
def Ee:aQ:=mkC E8.1
theorem Rb:OkF 268 uJ:=okq func268
def G4:=cv (a:=gT f269 [[0,1,4],[1,4,6],[4],[4]])
def su:aJ:=⟨29,mkC G4.1,[.cell 4 (.some 2)],.false,.false⟩
theorem On:OkF 269 su:=okq func269
def Nh:=cv (a:=gT f270 [[1,2],[2]])
def zy:aJ:=⟨6,mkC Nh.1,[.cell 2 (.some 2)],.false,.false⟩
theorem WD:OkF 270 zy:=okq func270
def Ir:=cv (a:=gT f271 [[1,2,3,6],[6]])
def uf:aJ:=⟨25,mkC Ir.1,[.cell 6 (.some 2)],.false,.false⟩
theorem Rz:OkF 271 uf:=okq func271
def B4:=cv (a:=gT f272 [[0,1],[0,1],[0,1,11],[4],[0,1,5],[0,1,5,15],[0,1,5],[0,1,5,26],[4],[0,1,5],[4]] [(.close [])])
def ut:aJ:=⟨28,mkC B4.1,[.tmp 4],.false,.false⟩
def EN:=cv (a:=lp B4.1 0)
def EK:aQ:=mkC EN.1
theorem Qt:OkF 272 ut:=okq func272
def CW:=cv (a:=gT f273 [[0,1],[0,1],[0,1,11],[4],[0,1,5],[0,1,5,15],[0,1,5],[0,1,5,25],[4],[0,1,5],[4]] [(.close [8005])])
def wV:aJ:=⟨27,mkC CW.1,[.tmp 4],.false,.false⟩
def G5:=cv (a:=lp CW.1 0)
def Gf:aQ:=mkC G5.1
theorem UB:OkF 273 wV:=okq func273
def SQ:=cv (a:=gT f274 [[1,2],[1,2,3],[1,2,3],[1,2,3],[1,2,3],[2,3],[2]])
def DI:aJ:=⟨17,mkC SQ.1,[.cell 2 (.some 4)],.false,.false⟩
theorem a1a:OkF 274 DI:=okq func274
def B6:=cv (a:=gT f275 [[0],[0,3],[0,3,4],[0,3,4,11],[0,3,4],[0,3,4],[2]] [(.close [])])
def u9:aJ:=⟨22,mkC B6.1,[.tmp 2],.false,.false⟩
def DW:=cv (a:=lp B6.1 0)
def E0:aQ:=mkC DW.1
theorem R2:OkF 275 u9:=okq func275
def Dg:=cv (a:=gT f276 [[0],[0,3],[0,3,4],[0,3,4,11],[0,3,4],[0,3,4],[2]] [(.close [6006])])
def xF:aJ:=⟨23,mkC Dg.1,[.tmp 2],.false,.false⟩
def Gg:=cv (a:=lp Dg.1 0)
def Fy:aQ:=mkC Gg.1
theorem V5:OkF 276 xF:=okq func276
def PY:=cv (a:=gT f277 [[2,3],[2,3,9],[4],[2,3,14],[4],[2,3,19],[4],[24],[4],[4]])
def DJ:aJ:=⟨25,mkC PY.1,[.tmp 4],.false,.false⟩
theorem a1Q:OkF 277 DJ:=okq func277
def AX:=cv (a:=gT f278 [[0,1],[0,1,10],[4],[0,1,5],[0,1,5,14],[0,1,5,25],[4],[0,1,5],[4]] [(.close [])])
def uM:aJ:=⟨26,mkC AX.1,[.tmp 4],.false,.false⟩
def EH:=cv (a:=lp AX.1 0)
def DV:aQ:=mkC EH.1
theorem R6:OkF 278 uM:=okq func278
def DA:=cv (a:=gT f279 [[0,1],[0,1,10],[4],[0,1,5],[0,1,5,14],[0,1,5,26],[4],[0,1,5],[4]] [(.close [7008])])
def xA:aJ:=⟨27,mkC DA.1,[.tmp 4],.false,.false⟩
def Fp:=cv (a:=lp DA.1 0)
def Ft:aQ:=mkC Fp.1
theorem TF:OkF 279 xA:=okq func279
def gZ:=cv (a:=gT f283 [[0,1],[0,1,7,8],[0,1,7,8,9],[0,1,5,7,8],[0,1,5,7,8,16],[4],[0,1,7,8],[4]] [(.close [5005])])
def ey:aJ:=⟨19,mkC gZ.1,[.tmp 4],.false,.false⟩
def jS:=cv (a:=lp gZ.1 0)
def jT:aQ:=mkC jS.1
theorem rO:OkF 283 ey:=okq func283
def Dk:aQ:=(.seq (qS 4000 [qb 13 .lss 12 11] [3,10,11,12,13]) (.seq (.cond (.t 13) .skip (.exit 0)) (.seq (.block 1 (.seq (qS 5000 [qx 14 1 10 12,ql 15 14,qm 5 15] [3,5,10,11,12]) (qS 6000 [qm 16 3,qm 17 5,qg 18 (.append 1 1 [(.int .u8 0)] (.t 16) (.t 17)),qm 3 18] [3,10,11,12]))) (qS 7000 [qB 19 .add 12 1,qm 12 19] [3,10,11,12]))))
def Cs:aQ:=(.seq (.seq (qS 9000 [qm 23 3,qn 24 23,qB 25 .rem 24 136,qB 26 .neq 25 0] [3,26]) (.cond (.t 26) .skip (.exit 2))) (.block 3 (qS 10000 [qm 27 3,qg 28 (.buildSlice 1 [(.int .u8 0)] 1 [(0,(.c (.int .u8 0)))]),qg 29 (.append 1 1 [(.int .u8 0)] (.t 27) (.t 28)),qm 3 29] [3])))
def Bc:aQ:=(.seq (qS 16000 [qB 48 .lss 47 25] [3,6,46,47,48]) (.seq (.cond (.t 48) .skip (.exit 6)) (.seq (.block 7 (.seq (qS 17000 [qm 49 47,qg 50 (.ixAgg 25 1 .none (.t 46) (.t 47)),qm 7 49,qm 8 50] [3,6,7,8,46,47]) (qS 18000 [qm 51 7,qX 52 25 1 6 51,ql 53 52,qm 54 8,qb 55 .xor 53 54,qX 56 25 1 6 51,qu 1 56 55] [3,6,46,47]))) (qS 19000 [qB 57 .add 47 1,qm 47 57] [3,6,46,47]))))
def Be:aQ:=(.seq (.seq (qS 13000 [qm 39 3,qn 40 39,qB 41 .gtr 40 0] [3,6,41]) (.cond (.t 41) .skip (.exit 4))) (.seq (.block 5 (.seq (.seq (qS 15000 [qm 44 3,qg 45 (.slice 1 (.t 44) .none (.some (qI 136)) .none),qc 46 344 [45],qi 47 0] [3,6,46,47]) (.block 6 (.loop (pO (.close []) Bc)))) (qS 20000 [qc 58 345 [6]] [3,6]))) (qS 14000 [qm 42 3,qg 43 (.slice 1 (.t 42) (.some (qI 136)) .none .none),qm 3 43] [3,6])))
def Ti:aQ:=(.seq (qS 1000 [qg 2 (.mv (.c (.string ⟨⟨[]⟩⟩)))] [0]) (.seq (qS 2000 [qg 9 (.buildSlice 1 [(.int .u8 0)] 0 []),qm 3 9] [0,3]) (.seq (.seq (qS 3000 [qm 10 0,qn 11 10,qi 12 0] [3,10,11,12]) (.block 0 (.loop (pO (.close [6002]) Dk)))) (.seq (qS 8000 [qm 20 3,qg 21 (.buildSlice 1 [(.int .u8 0)] 1 [(0,(.c (.int .u8 1)))]),qg 22 (.append 1 1 [(.int .u8 0)] (.t 20) (.t 21)),qm 3 22] [3]) (.seq (.block 2 (.loop (pO (.close [10001,10002]) Cs))) (.seq (qS 11000 [qm 30 3,qm 31 3,qn 32 31,qB 33 .sub 32 1,qx 34 1 30 33,ql 35 34,qg 36 (.bin .or (.t 35) (.c (.int .u8 128))),qx 37 1 30 33,qu 1 37 36] [3]) (.seq (qS 12000 [qg 38 (.build (zar .u64 25) []),qg 6 (.alloc (zar .u64 25)),qu 25 6 38] [3,6]) (.seq (.block 4 (.loop (pO (.close [15002,20000,2000]) Be))) (.seq (qS 21000 [qc 59 346 [6],qg 60 (.slice 1 (.t 59) .none (.some (qI 32)) .none),qg 61 (.toStr (.t 60)),qm 2 61] [2]) .ret)))))))))
def CL:aJ:=⟨62,Ti,[.tmp 2],.false,.false⟩
theorem a2b:OkF 284 CL:=okq func284
def BO:=cv (a:=gT f285 [[0,1,2],[5]])
def oV:aJ:=⟨13,mkC BO.1,[.tmp 5],.true,.false⟩
theorem Kh:OkF 285 oV:=okq func285
def AA:=cv (a:=gT f286 [[0,2,3,11,12,13],[0,2,3,11,12,13,14],[0,2,3,9,11,12,13],[0,2,3,9,10,11,12,13],[0,2,3,11,12,13],[0,2,3,11,12,13],[0],[]] [(.close [3002,4007,5013])])
def ub:aJ:=⟨70,mkC AA.1,[],.false,.false⟩
def Ei:=cv (a:=lp AA.1 0)
def Ec:aQ:=mkC Ei.1
theorem QD:OkF 286 ub:=okq func286
def my:=cv (a:=gT f288 [[2,3],[4]])
def fK:aJ:=⟨17,mkC my.1,[.tmp 4],.false,.false⟩
theorem tg:OkF 288 fK:=okq func288
def S7:=cv (a:=gT f289 [[0],[0,3],[3,7,8,9],[3,7,8,9,10],[3,5,7,8,9],[3,7,8,9],[3,7,8,9],[2]] [(.close [6003,6004])])
def LP:aJ:=⟨20,mkC S7.1,[.tmp 2],.false,.false⟩
def Qw:=cv (a:=lp S7.1 0)
def Qh:aQ:=mkC Qw.1
theorem a8A:OkF 289 LP:=okq func289
def AE:=cv (a:=gT f290 [[2,3,4],[2,7],[7,26,27,28],[7,26,27,28,29],[7,9,26,27,28],[7,26,27,28],[7,26,27,28],[6]] [(.close [6002])])
def uq:aJ:=⟨37,mkC AE.1,[.tmp 6],.false,.false⟩
def Eg:=cv (a:=lp AE.1 0)
def EO:aQ:=mkC Eg.1
theorem T4:OkF 290 uq:=okq func290
def s9:=cv (a:=gT f293 [[1,3,5],[3,5,7,8],[5,7,8,20,21],[5,7,8,20,21,22],[5,7,8,9,10,20,21],[5,7,8,9,20,21,25,26,27],[5,7,8,9,20,21,25,26,27,28],[5,7,8,9,12,20,21,25,26,27],[5,7,8,9,20,21,25,26,27],[5,7,8,9,20,21,25,26,27],[5,7,8,20,21],[6]] [(.close [8002,9016,9019,9020]),(.close [8002,9016,9019,9020])])
def rJ:aJ:=⟨56,mkC s9.1,[.tmp 6],.false,.false⟩
def M9:=cv (a:=lp s9.1 0)
def a9Y:aQ:=mkC M9.1
def oE:=cv (a:=lp s9.1 1)
def jl:aQ:=mkC oE.1
theorem OR:OkF 293 rJ:=okq func293
def JR:=cv (a:=gT f297 [[0],[0,3],[3,6,7,8],[3,6,7,8,9],[3,5,6,7,8],[3,6,7,8],[3,6,7,8],[2]] [(.close [])])
def Dp:aJ:=⟨19,mkC JR.1,[.tmp 2],.false,.false⟩
def Ko:=cv (a:=lp JR.1 0)
def Kl:aQ:=mkC Ko.1
theorem a2W:OkF 297 Dp:=okq func297
def NN:=cv (a:=gT f298 [])
def zR:aJ:=⟨2,mkC NN.1,[],.false,.false⟩
theorem Xz:OkF 298 zR:=okq func298
def Nv:=cv (a:=gT f299 [[0,1,4],[1,4,6],[4],[4]])
def zU:aJ:=⟨29,mkC Nv.1,[.cell 4 (.some 2)],.false,.false⟩
theorem XI:OkF 299 zU:=okq func299
def NQ:=cv (a:=gT f300 [[3,4,5,6],[6]])
def zA:aJ:=⟨14,mkC NQ.1,[.cell 6 (.some 2)],.false,.false⟩
theorem Zt:OkF 300 zA:=okq func300
def KY:=cv (a:=gT f301 [[1,2,3,6],[6]])
def wT:aJ:=⟨17,mkC KY.1,[.cell 6 (.some 2)],.false,.false⟩
theorem Uw:OkF 301 wT:=okq func301
def QJ:=cv (a:=gT f303 [[0],[3],[2],[2]])
def DH:aJ:=⟨4,mkC QJ.1,[.tmp 2],.false,.false⟩
theorem a1l:OkF 303 DH:=okq func303
def CB:=cv (a:=gT f304 [[0],[0,3],[0,3,4],[0,3,4,6],[0,3,4],[0,3,4],[2]] [(.close [])])
def xf:aJ:=⟨18,mkC CB.1,[.tmp 2],.false,.false⟩
def G3:=cv (a:=lp CB.1 0)
def FK:aQ:=mkC G3.1
theorem Ve:OkF 304 xf:=okq func304
def Kw:=cv (a:=gT f305 [[0],[2]])
def wL:aJ:=⟨5,mkC Kw.1,[.tmp 2],.false,.false⟩
theorem Ui:OkF 305 wL:=okq func305
def L4:=cv (a:=gT f306 [[0,1],[4]])
def wP:aJ:=⟨9,mkC L4.1,[.tmp 4],.false,.false⟩
theorem Ts:OkF 306 wP:=okq func306
def a1E:=cv (a:=gT f308 [[0],[2]])
def Km:aJ:=⟨7,mkC a1E.1,[.tmp 2],.false,.false⟩
theorem a91:OkF 308 Km:=okq func308
def Vj:=cv (a:=gT f309 [[0],[2]])
def Hl:aJ:=⟨7,mkC Vj.1,[.tmp 2],.false,.false⟩
theorem a44:OkF 309 Hl:=okq func309
def SN:=cv (a:=gT f310 [[0],[0]])
def CX:aJ:=⟨2,mkC SN.1,[.cell 0 (.some 2)],.false,.false⟩
theorem a1k:OkF 310 CX:=okq func310
def I5:=cv (a:=gT f313 [[0],[2]])
def uE:aJ:=⟨5,mkC I5.1,[.tmp 2],.false,.false⟩
theorem Pv:OkF 313 uE:=okq func313
def W7:=cv (a:=gT f315 [[0,2],[2]])
def H0:aJ:=⟨5,mkC W7.1,[.cell 2 (.some 2)],.false,.false⟩
theorem a6f:OkF 315 H0:=okq func315
def Nz:=cv (a:=gT f317 [[0,1,7,8,9,10],[7,8,9,10,11],[7,8,9,10,11,12],[7,8,9,10,11,12,13],[9,10,13,14],[10]])
def A3:aJ:=⟨41,mkC Nz.1,[.cell 10 (.some 2)],.false,.false⟩
theorem Yb:OkF 317 A3:=okq func317
def NU:=cv (a:=gT f318 [[0],[2]])
def Aq:aJ:=⟨6,mkC NU.1,[.tmp 2],.false,.false⟩
theorem XP:OkF 318 Aq:=okq func318
def y9:aQ:=(.seq (.seq (qS 4000 [qm 6 4,qm 7 0,qg 8 (.len .true (.t 7)),qb 9 .lss 6 8] [0,2,3,4,9]) (.cond (.t 9) .skip (.exit 0))) (.seq (.block 1 (.drawn 6000 [qm 12 4,qB 13 .quo 12 8,qX 14 25 1 3 13,ql 15 14,qm 16 0,qm 17 4,qg 18 (.ixStr (.t 16) (.t 17)),qg 19 (.toInt .u64 (.t 18)),qm 20 4,qB 21 .rem 20 8,qD 22 .mul 8 21,qg 23 (.toInt .u64 (.t 22)),qb 24 .shl 19 23,qb 25 .or 15 24,qX 26 25 1 3 13,qu 1 26 25] [[],[0],[1,0],[2,1,0],[],[],[4,5],[6,4,5],[],[8],[9,8],[10,9,8],[7,6,4,5,11,10,9,8],[3,2,1,0,12,7,6,4,5,11,10,9,8],[1,0,2,3,4,5,6,7,8,9,10,11,12,13],[14,1,0,2,3,4,5,6,7,8,9,10,11,12,13]] [0,2,3,4])) (qS 5000 [qm 10 4,qB 11 .add 10 1,qm 4 11] [0,2,3,4])))
def KL:aQ:=(.seq (qS 1000 [qg 2 (.alloc (zar .u64 25))] [0,2]) (.seq (qS 2000 [qg 5 (.build (zar .u64 25) []),qg 3 (.alloc (zar .u64 25)),qu 25 3 5] [0,2,3]) (.seq (.seq (qS 3000 [qi 4 0] [0,2,3,4]) (.block 0 (.loop (pO (.close []) y9)))) (.seq (qS 7000 [qL 27 25 3,qu 25 2 27] [2]) .ret))))
def xq:aJ:=⟨28,KL,[.cell 2 (.some 25)],.false,.false⟩
theorem Ut:OkF 321 xq:=okq func321
def tA:aQ:=(.seq (.seq (qS 9000 [qm 21 7,qB 22 .lss 21 5] [1,2,3,4,5,6,7,22]) (.cond (.t 22) .skip (.exit 2))) (.seq (.block 3 (.drawn 11000 [qm 25 7,qm 26 7,qX 27 25 1 1 26,ql 28 27,qm 29 7,qB 30 .add 29 5,qX 31 25 1 1 30,ql 32 31,qb 33 .xor 28 32,qm 34 7,qB 35 .add 34 10,qX 36 25 1 1 35,ql 37 36,qb 38 .xor 33 37,qm 39 7,qB 40 .add 39 15,qX 41 25 1 1 40,ql 42 41,qb 43 .xor 38 42,qm 44 7,qB 45 .add 44 20,qX 46 25 1 1 45,ql 47 46,qb 48 .xor 43 47,qX 49 5 1 6 25,qu 1 49 48] [[],[],[1],[2,1],[],[4],[5,4],[6,5,4],[3,2,1,7,6,5,4],[],[9],[10,9],[11,10,9],[8,3,2,1,7,6,5,4,12,11,10,9],[],[14],[15,14],[16,15,14],[13,8,3,2,1,7,6,5,4,12,11,10,9,17,16,15,14],[],[19],[20,19],[21,20,19],[18,13,8,3,2,1,7,6,5,4,12,11,10,9,17,16,15,14,22,21,20,19],[0,1,2,3,4,5,6,7,8,9,10,11,12,13,14,15,16,17,18,19,20,21,22,23],[24,0,1,2,3,4,5,6,7,8,9,10,11,12,13,14,15,16,17,18,19,20,21,22,23]] [1,2,3,4,5,6,7])) (qS 10000 [qm 23 7,qB 24 .add 23 1,qm 7 24] [1,2,3,4,5,6,7])))
def sq:aQ:=(.seq (.seq (qS 13000 [qm 50 8,qB 51 .lss 50 25] [1,2,3,4,5,6,8,51]) (.cond (.t 51) .skip (.exit 4))) (.seq (.block 5 (.drawn 15000 [qm 54 8,qX 55 25 1 1 54,ql 56 55,qm 57 8,qB 58 .add 57 4,qB 59 .rem 58 5,qX 60 5 1 6 59,ql 61 60,qm 62 8,qB 63 .add 62 1,qB 64 .rem 63 5,qX 65 5 1 6 64,ql 66 65,qg 67 (.call 367 [(.t 66),(.c (.int .u64 1))]),qb 68 .xor 61 67,qb 69 .xor 56 68,qX 70 25 1 1 54,qu 1 70 69] [[],[0],[1,0],[],[3],[4,3],[5,4,3],[6,5,4,3],[],[8],[9,8],[10,9,8],[11,10,9,8],[12,11,10,9,8],[7,6,5,4,3,13,12,11,10,9,8],[2,1,0,14,7,6,5,4,3,13,12,11,10,9,8],[0,1,2,3,4,5,6,7,8,9,10,11,12,13,14,15],[16,0,1,2,3,4,5,6,7,8,9,10,11,12,13,14,15]] [1,2,3,4,5,6,8])) (qS 14000 [qm 52 8,qB 53 .add 52 1,qm 8 53] [1,2,3,4,5,6,8])))
def sH:aQ:=(.seq (.seq (qS 21000 [qm 76 11,qB 77 .lss 76 5] [1,2,3,4,5,9,10,11,77]) (.cond (.t 77) .skip (.exit 8))) (.seq (.block 9 (.drawn 23000 [qm 80 11,qm 81 10,qD 82 .mul 2 81,qm 83 11,qD 84 .mul 3 83,qb 85 .add 82 84,qB 86 .rem 85 5,qD 87 .mul 5 86,qb 88 .add 80 87,qm 89 10,qm 90 11,qD 91 .mul 5 90,qb 92 .add 89 91,qX 93 25 1 1 92,ql 94 93,qm 95 10,qm 96 11,qD 97 .mul 5 96,qb 98 .add 95 97,qX 99 25 1 4 98,ql 100 99,qc 101 367 [94,100],qX 102 25 1 9 88,qu 1 102 101] [[],[],[1],[],[3],[2,1,4,3],[5,2,1,4,3],[6,5,2,1,4,3],[0,7,6,5,2,1,4,3],[],[],[10],[9,11,10],[12,9,11,10],[13,12,9,11,10],[],[],[16],[15,17,16],[18,15,17,16],[19,18,15,17,16],[14,13,12,9,11,10,20,19,18,15,17,16],[8,0,7,6,5,2,1,4,3,9,10,11,12,13,14,15,16,17,18,19,20,21],[22,8,0,7,6,5,2,1,4,3,9,10,11,12,13,14,15,16,17,18,19,20,21]] [1,2,3,4,5,9,10,11])) (qS 22000 [qm 78 11,qB 79 .add 78 1,qm 11 79] [1,2,3,4,5,9,10,11])))
def rZ:aQ:=(.seq (.seq (qS 18000 [qm 72 10,qB 73 .lss 72 5] [1,2,3,4,5,9,10,73]) (.cond (.t 73) .skip (.exit 6))) (.seq (.block 7 (.seq (qS 20000 [qi 11 0] [1,2,3,4,5,9,10,11]) (.block 8 (.loop (pO (.close [23021]) sH))))) (qS 19000 [qm 74 10,qB 75 .add 74 1,qm 10 75] [1,2,3,4,5,9,10])))
def rX:aQ:=(.seq (.seq (qS 28000 [qm 107 13,qB 108 .lss 107 5] [1,2,3,4,5,9,12,13,108]) (.cond (.t 108) .skip (.exit 12))) (.seq (.block 13 (.drawn 30000 [qm 111 12,qm 112 13,qD 113 .mul 5 112,qb 114 .add 111 113,qm 115 12,qm 116 13,qD 117 .mul 5 116,qb 118 .add 115 117,qX 119 25 1 9 118,ql 120 119,qm 121 12,qB 122 .add 121 1,qB 123 .rem 122 5,qm 124 13,qD 125 .mul 5 124,qb 126 .add 123 125,qX 127 25 1 9 126,ql 128 127,qg 129 (.un .xor (.t 128)),qm 130 12,qB 131 .add 130 2,qB 132 .rem 131 5,qm 133 13,qD 134 .mul 5 133,qb 135 .add 132 134,qX 136 25 1 9 135,ql 137 136,qb 138 .and 129 137,qb 139 .xor 120 138,qX 140 25 1 1 114,qu 1 140 139] [[],[],[1],[0,2,1],[],[],[5],[4,6,5],[7,4,6,5],[8,7,4,6,5],[],[10],[11,10],[],[13],[12,11,10,14,13],[15,12,11,10,14,13],[16,15,12,11,10,14,13],[17,16,15,12,11,10,14,13],[],[19],[20,19],[],[22],[21,20,19,23,22],[24,21,20,19,23,22],[25,24,21,20,19,23,22],[18,17,16,15,12,11,10,14,13,26,25,24,21,20,19,23,22],[9,8,7,4,6,5,27,18,17,16,15,12,11,10,14,13,26,25,24,21,20,19,23,22],[3,0,2,1,4,5,6,7,8,9,10,11,12,13,14,15,16,17,18,19,20,21,22,23,24,25,26,27,28],[29,3,0,2,1,4,5,6,7,8,9,10,11,12,13,14,15,16,17,18,19,20,21,22,23,24,25,26,27,28]] [1,2,3,4,5,9,12,13])) (qS 29000 [qm 109 13,qB 110 .add 109 1,qm 13 110] [1,2,3,4,5,9,12,13])))
def rT:aQ:=(.seq (.seq (qS 25000 [qm 103 12,qB 104 .lss 103 5] [1,2,3,4,5,9,12,104]) (.cond (.t 104) .skip (.exit 10))) (.seq (.block 11 (.seq (qS 27000 [qi 13 0] [1,2,3,4,5,9,12,13]) (.block 12 (.loop (pO (.close []) rX))))) (qS 26000 [qm 105 12,qB 106 .add 105 1,qm 12 106] [1,2,3,4,5,9,12])))
def tG:aQ:=(.seq (.seq (qS 5000 [qm 16 5,qB 17 .lss 16 24] [1,2,3,4,5,17]) (.cond (.t 17) .skip (.exit 0))) (.seq (.block 1 (.seq (qS 7000 [qg 20 (.build (zar .u64 5) []),qg 6 (.alloc (zar .u64 5)),qu 5 6 20] [1,2,3,4,5,6]) (.seq (.seq (qS 8000 [qi 7 0] [1,2,3,4,5,6,7]) (.block 2 (.loop (pO (.close []) tA)))) (.seq (.seq (qS 12000 [qi 8 0] [1,2,3,4,5,6,8]) (.block 4 (.loop (pO (.close [15013]) sq)))) (.seq (qS 16000 [qg 71 (.build (zar .u64 25) []),qg 9 (.alloc (zar .u64 25)),qu 25 9 71] [1,2,3,4,5,9]) (.seq (.seq (qS 17000 [qi 10 0] [1,2,3,4,5,9,10]) (.block 6 (.loop (pO (.close [23021]) rZ)))) (.seq (.seq (qS 24000 [qi 12 0] [1,2,3,4,5,9,12]) (.block 10 (.loop (pO (.close []) rT)))) (.drawn 31000 [qg 141 (.idxArr 25 1 (.t 1) (qI 0)),ql 142 141,qm 143 5,qX 144 24 1 3 143,ql 145 144,qb 146 .xor 142 145,qg 147 (.idxArr 25 1 (.t 1) (qI 0)),qu 1 147 146] [[],[0],[],[2],[3,2],[1,0,4,3,2],[0,1,2,3,4,5],[6,0,1,2,3,4,5]] [1,2,3,4,5])))))))) (qS 6000 [qm 18 5,qB 19 .add 18 1,qm 5 19] [1,2,3,4,5])))
def FH:aQ:=(.seq (qS 1000 [qg 1 (.box 25 (.t 0)),qg 2 (.alloc (zar .u64 25))] [1,2]) (.seq (qS 2000 [qc 14 365 [],qg 3 (.alloc (zar .u64 24)),qu 24 3 14] [1,2,3]) (.seq (qS 3000 [qc 15 366 [],qg 4 (.alloc (zar .u64 25)),qu 25 4 15] [1,2,3,4]) (.seq (.seq (qS 4000 [qi 5 0] [1,2,3,4,5]) (.block 0 (.loop (pO (.close [7001,15013,16001,23021]) tG)))) (.seq (qS 32000 [qL 148 25 1,qu 25 2 148] [2]) .ret)))))
def rI:aJ:=⟨149,FH,[.cell 2 (.some 25)],.false,.false⟩
theorem OQ:OkF 322 rI:=okq func322
def FR:=cv (a:=gT f323 [[1,2],[1,2,5],[1,2,5,6],[1,2,5,6,10],[1,2,5,6],[1,2,5,6],[4]] [(.close [6011,6012])])
def zL:aJ:=⟨28,mkC FR.1,[.tmp 4],.false,.false⟩
def ID:=cv (a:=lp FR.1 0)
def HG:aQ:=mkC ID.1
theorem YB:OkF 323 zL:=okq func323
def LU:=cv (a:=gT f324 [[0],[0,5],[2],[2]])
def wG:aJ:=⟨8,mkC LU.1,[.tmp 2],.false,.false⟩
theorem Tz:OkF 324 wG:=okq func324
def ED:=cv (a:=gT f325 [[0,2],[0,2,9],[0,2],[2],[0,2,3],[2,3],[2]] [] [(6,.close [5014])])
def qy:aJ:=⟨63,mkC ED.1,[.cell 2 (.some 2)],.false,.false⟩
theorem ML:OkF 325 qy:=okq func325
def Dl:=cv (a:=gT f326 [[0,3,4],[0,3,4,5],[0,3,4,5,11,12,13],[0,3,4,5,11,12,13,14],[0,3,4,5,6,7,11,12,13],[0,3,4,5,6,8,11,12,13],[0,3,4,5,6,8,11,12,13,20,21],[0,3,4,5,6,8,11,12,13,20,21,22],[0,3,4,5,6,8,9,11,12,13,20,21],[0,3,4,5,6,8,9,11,12,13,20,21,26],[0,3,4,5,6,8,11,12,13,20,21],[0,3,4,5,6,8,11,12,13,20,21],[0,3,4,5,11,12,13],[0,3,4,5,11,12,13],[4]] [(.close [5003,6001,11004,11005,11008,11009,11010,13002]),(.close [11004,11005,11008,11009,11010])])
def CQ:aJ:=⟨44,mkC Dl.1,[.cell 4 (.some 2)],.false,.false⟩
def Lf:=cv (a:=lp Dl.1 0)
def LJ:aQ:=mkC Lf.1
def Ky:=cv (a:=lp Dl.1 1)
def LF:aQ:=mkC Ky.1
theorem a1S:OkF 326 CQ:=okq func326
def W2:=cv (a:=gT f327 [[0,1,2,3,4],[0,2,3,4,25],[10],[0,11],[10]])
def Hc:aJ:=⟨39,mkC W2.1,[.tmp 10],.false,.false⟩
theorem a5r:OkF 327 Hc:=okq func327
def Lp:=cv (a:=gT f328 [[0,1,7,8,9,10],[7,8,9,10,11,12],[10]])
def xC:aJ:=⟨35,mkC Lp.1,[.cell 10 (.some 2)],.false,.false⟩
theorem V3:OkF 328 xC:=okq func328
def Rg:=cv (a:=gT f329 [[2,3,4],[4]])
def Dm:aJ:=⟨16,mkC Rg.1,[.cell 4 (.some 2)],.false,.false⟩
theorem a33:OkF 329 Dm:=okq func329
def Fm:=cv (a:=gT f330 [[0],[2]])
def rN:aJ:=⟨5,mkC Fm.1,[.tmp 2],.false,.false⟩
theorem Oy:OkF 330 rN:=okq func330
def DC:=cv (a:=gT f331 [[0,1,2,3,4],[0,2,3,4,25],[10],[0,2,3,4,11],[0,2,3,4,11,29],[0,2,3,4,11,37],[10],[0,2,3,4,11],[0,13],[10]] [(.close [])])
def xI:aJ:=⟨48,mkC DC.1,[.tmp 10],.false,.false⟩
def Gk:=cv (a:=lp DC.1 0)
def Fv:aQ:=mkC Gk.1
theorem Uv:OkF 331 xI:=okq func331
def gj:=cv (a:=gT f332 [[0,1],[0,1,7,8],[0,1,7,8,9],[0,1,5,7,8],[0,1,5,7,8,16],[4],[0,1,7,8],[4]] [(.close [5005])])
def dZ:aJ:=⟨19,mkC gj.1,[.tmp 4],.false,.false⟩
def je:=cv (a:=lp gj.1 0)
def jf:aQ:=mkC je.1
theorem qZ:OkF 332 dZ:=okq func332
def e6:=cv (a:=gT f333 [[0,1],[0,1,7,8],[0,1,7,8,9],[0,1,5,7,8],[0,1,5,7,8,16],[4],[0,1,7,8],[4]] [(.close [5005])])
def cN:aJ:=⟨19,mkC e6.1,[.tmp 4],.false,.false⟩
def fG:=cv (a:=lp e6.1 0)
def dO:aQ:=mkC fG.1
theorem qP:OkF 333 cN:=okq func333
def fF:=cv (a:=gT f334 [[0,1],[0,1,7,8],[0,1,7,8,9],[0,1,5,7,8],[0,1,5,7,8,16],[4],[0,1,7,8],[4]] [(.close [5005])])
def dN:aJ:=⟨19,mkC fF.1,[.tmp 4],.false,.false⟩
def iD:=cv (a:=lp fF.1 0)
def iE:aQ:=mkC iD.1
theorem p5:OkF 334 dN:=okq func334
def j9:=cv (a:=gT f335 [[0,1],[0,1,7,8],[0,1,7,8,9],[0,1,5,7,8],[0,1,5,7,8,16],[4],[0,1,7,8],[4]] [(.close [5005])])
def ga:aJ:=⟨19,mkC j9.1,[.tmp 4],.false,.false⟩
def lX:=cv (a:=lp j9.1 0)
def lY:aQ:=mkC lX.1
theorem wu:OkF 335 ga:=okq func335
def uF:=cv (a:=gT f336 [[1],[1,3],[3,4],[3,4,5],[3,4,5,28],[3,4,5],[3,4,5,6],[3,4,5,6,46],[3,4,5,6,7],[3,4,5,6],[3,4,5,6],[3,4,5],[2]] [(.close [7006,11007,12007,12011]),(.close [11007,12007,12011])])
def uw:aJ:=⟨73,mkC uF.1,[.tmp 2],.false,.false⟩
def EC:=cv (a:=lp uF.1 0)
def E5:aQ:=mkC EC.1
def Em:=cv (a:=lp uF.1 1)
def E4:aQ:=mkC Em.1
theorem Tj:OkF 336 uw:=okq func336
def JT:=cv (a:=gT f337 [[1],[1,3],[3,4],[3,4,5],[3,4,5,21],[3,4,5],[2]] [(.close [])])
def DK:aJ:=⟨25,mkC JT.1,[.tmp 2],.false,.false⟩
def Ld:=cv (a:=lp JT.1 0)
def K5:aQ:=mkC Ld.1
theorem a0W:OkF 337 DK:=okq func337
def GK:=cv (a:=gT f338 [[0,1,2],[0,1,2,11],[6],[0,1,2,7],[0,1,2,7,15],[0,1,2,7,8],[0,1,2,7,8,45],[6],[0,1,2,7,80],[6],[0,1,2,7],[6]] [(.close [7004,8006,8015,8021])])
def Ac:aJ:=⟨81,mkC GK.1,[.tmp 6],.false,.false⟩
def Io:=cv (a:=lp GK.1 0)
def HU:aQ:=mkC Io.1
theorem YJ:OkF 338 Ac:=okq func338
def Nl:=cv (a:=gT f341 [[1,2],[1,2],[1,2,10],[4],[1],[1,16],[4],[4]])
def zP:aJ:=⟨18,mkC Nl.1,[.tmp 4],.false,.false⟩
theorem Xj:OkF 341 zP:=okq func341
def O9:=cv (a:=gT f342 [[1,2],[1,2,3],[1,2,3],[2,3],[2]])
def zO:aJ:=⟨13,mkC O9.1,[.cell 2 (.some 2)],.false,.false⟩
theorem Xc:OkF 342 zO:=okq func342
def NH:=cv (a:=gT f343 [[2,3],[2,3,10],[4],[16],[4],[4]])
def zS:aJ:=⟨17,mkC NH.1,[.tmp 4],.false,.false⟩
theorem YD:OkF 343 zS:=okq func343
def B7:aQ:=(.seq (qS 4000 [qb 10 .lss 9 8] [2,3,7,8,9,10]) (.seq (.cond (.t 10) .skip (.exit 0)) (.seq (.block 1 (.seq (qS 5000 [qm 11 9,qx 12 1 7 9,ql 13 12,qm 4 11,qm 5 13] [2,3,4,5,7,8,9]) (.drawn 6000 [qm 14 4,qB 15 .quo 14 8,qX 16 25 1 3 15,ql 17 16,qm 18 5,qg 19 (.toInt .u64 (.t 18)),qm 20 4,qB 21 .rem 20 8,qD 22 .mul 8 21,qb 23 .shl 19 22,qb 24 .or 17 23,qX 25 25 1 3 15,qu 1 25 24] [[],[0],[1,0],[2,1,0],[],[4],[],[6],[7,6],[5,4,8,7,6],[3,2,1,0,9,5,4,8,7,6],[1,0,2,3,4,5,6,7,8,9,10],[11,1,0,2,3,4,5,6,7,8,9,10]] [2,3,7,8,9]))) (qS 7000 [qB 26 .add 9 1,qm 9 26] [2,3,7,8,9]))))
def Ng:aQ:=(.seq (qS 1000 [qg 2 (.alloc (zar .u64 25))] [0,2]) (.seq (qS 2000 [qg 6 (.build (zar .u64 25) []),qg 3 (.alloc (zar .u64 25)),qu 25 3 6] [0,2,3]) (.seq (.seq (qS 3000 [qm 7 0,qn 8 7,qi 9 0] [2,3,7,8,9]) (.block 0 (.loop (pO (.close []) B7)))) (.seq (qS 8000 [qL 27 25 3,qu 25 2 27] [2]) .ret))))
def zC:aJ:=⟨28,Ng,[.cell 2 (.some 25)],.false,.false⟩
theorem Z8:OkF 344 zC:=okq func344
def pb:aQ:=(.seq (qS 8000 [qB 28 .lss 27 25] [0,2,5,6,7,20,21,26,27,28]) (.seq (.cond (.t 28) .skip (.exit 2)) (.seq (.block 3 (.seq (.drawn 9000 [qm 29 27,qk 30 26,qX 31 25 1 30 27,ql 32 31,qm 8 29,qm 9 32] [[],[],[1],[2,1],[0],[3,2,1,4,0]] [0,2,5,6,7,8,9,20,21,26,27]) (qS 10000 [qm 33 8,qB 34 .rem 33 5,qX 35 5 1 6 34,ql 36 35,qm 37 9,qb 38 .xor 36 37,qX 39 5 1 6 34,qu 1 39 38] [0,2,5,6,7,20,21,26,27]))) (qS 11000 [qB 40 .add 27 1,qm 27 40] [0,2,5,6,7,20,21,26,27]))))
def nE:aQ:=(.seq (qS 13000 [qB 43 .lss 42 25] [0,2,5,6,7,20,21,41,42,43]) (.seq (.cond (.t 43) .skip (.exit 4)) (.seq (.block 5 (.seq (.drawn 14000 [qm 44 42,qk 45 41,qX 46 25 1 45 42,ql 47 46,qm 10 44,qm 11 47] [[],[],[1],[2,1],[0],[3,2,1,4,0]] [0,2,5,6,7,10,11,20,21,41,42]) (.seq (qS 15000 [qm 48 10,qB 49 .rem 48 5,qm 50 10,qB 51 .quo 50 5,qm 12 49,qm 13 51] [0,2,5,6,7,10,11,12,13,20,21,41,42]) (.seq (.drawn 16000 [qm 52 11,qm 53 12,qB 54 .add 53 4,qB 55 .rem 54 5,qX 56 5 1 6 55,ql 57 56,qm 58 12,qB 59 .add 58 1,qB 60 .rem 59 5,qX 61 5 1 6 60,ql 62 61,qg 63 (.call 376 [(.t 62),(qI 1)]),qb 64 .xor 57 63,qb 65 .xor 52 64,qm 11 65] [[],[],[1],[2,1],[3,2,1],[4,3,2,1],[],[6],[7,6],[8,7,6],[9,8,7,6],[10,9,8,7,6],[5,4,3,2,1,11,10,9,8,7,6],[0,12,5,4,3,2,1,11,10,9,8,7,6],[13,0,12,5,4,3,2,1,11,10,9,8,7,6]] [0,2,5,6,7,10,11,12,13,20,21,41,42]) (qS 17000 [qm 66 13,qm 67 12,qD 68 .mul 2 67,qm 69 13,qD 70 .mul 3 69,qb 71 .add 68 70,qB 72 .rem 71 5,qD 73 .mul 5 72,qb 74 .add 66 73,qm 75 11,qm 76 10,qX 77 25 1 2 76,ql 78 77,qc 79 376 [75,78],qX 80 25 1 7 74,qu 1 80 79] [0,2,5,6,7,20,21,41,42]))))) (qS 18000 [qB 81 .add 42 1,qm 42 81] [0,2,5,6,7,20,21,41,42]))))
def nT:aQ:=(.seq (qS 20000 [qB 84 .lss 83 25] [0,2,5,7,20,21,82,83,84]) (.seq (.cond (.t 84) .skip (.exit 6)) (.seq (.block 7 (.seq (qS 21000 [qm 85 83,qg 86 (.ixAgg 25 1 .none (.t 82) (.t 83)),qm 14 85,qm 15 86] [0,2,5,7,14,15,20,21,82,83]) (.seq (qS 22000 [qm 87 14,qB 88 .rem 87 5,qm 89 14,qm 90 14,qB 91 .rem 90 5,qb 92 .sub 89 91,qm 16 88,qm 17 92] [0,2,5,7,14,15,16,17,20,21,82,83]) (.drawn 23000 [qm 93 0,qm 94 14,qm 95 15,qm 96 17,qm 97 16,qB 98 .add 97 2,qB 99 .rem 98 5,qb 100 .add 96 99,qX 101 25 1 7 100,ql 102 101,qm 103 17,qm 104 16,qB 105 .add 104 1,qB 106 .rem 105 5,qb 107 .add 103 106,qX 108 25 1 7 107,ql 109 108,qb 110 .andNot 102 109,qb 111 .xor 95 110,qk 112 93,qX 113 25 1 112 94,qu 1 113 111] [[],[],[],[],[],[4],[5,4],[3,6,5,4],[7,3,6,5,4],[8,7,3,6,5,4],[],[],[11],[12,11],[10,13,12,11],[14,10,13,12,11],[15,14,10,13,12,11],[9,8,7,3,6,5,4,16,15,14,10,13,12,11],[2,17,9,8,7,3,6,5,4,16,15,14,10,13,12,11],[0],[19,0,1,2,3,4,5,6,7,8,9,10,11,12,13,14,15,16,17,18],[20,19,0,1,2,3,4,5,6,7,8,9,10,11,12,13,14,15,16,17,18]] [0,2,5,7,20,21,82,83])))) (qS 24000 [qB 114 .add 83 1,qm 83 114] [0,2,5,7,20,21,82,83]))))
def pa:aQ:=(.seq (qS 4000 [qB 22 .lss 21 24] [0,2,20,21,22]) (.seq (.cond (.t 22) .skip (.exit 0)) (.seq (.block 1 (.seq (qS 5000 [qg 23 (.ixAgg 24 1 .none (.t 20) (.t 21)),qm 5 23] [0,2,5,20,21]) (.seq (qS 6000 [qg 24 (.build (zar .u64 5) []),qg 25 (.build (zar .u64 25) []),qg 6 (.alloc (zar .u64 5)),qg 7 (.alloc (zar .u64 25)),qu 5 6 24,qu 25 7 25] [0,2,5,6,7,20,21]) (.seq (.seq (qS 7000 [qm 26 0,qi 27 0] [0,2,5,6,7,20,21,26,27]) (.block 2 (.loop (pO (.close []) pb)))) (.seq (.seq (qS 12000 [qm 41 0,qi 42 0] [0,2,5,6,7,20,21,41,42]) (.block 4 (.loop (pO (.close [16011,17013]) nE)))) (.seq (.seq (qS 19000 [qL 82 25 7,qi 83 0] [0,2,5,7,20,21,82,83]) (.block 6 (.loop (pO (.close []) nT)))) (.drawn 25000 [qm 115 0,qk 116 115,qg 117 (.idxArr 25 1 (.t 116) (qI 0)),ql 118 117,qm 119 5,qb 120 .xor 118 119,qk 121 115,qg 122 (.idxArr 25 1 (.t 121) (qI 0)),qu 1 122 120] [[],[0],[1,0],[2,1,0],[],[3,2,1,0,4],[0],[6,0,1,2,3,4,5],[7,6,0,1,2,3,4,5]] [0,2,20,21]))))))) (qS 26000 [qB 123 .add 21 1,qm 21 123] [0,2,20,21]))))
def zr:aQ:=(.seq (qS 1000 [qg 18 (.build (zar .i64 25) (Yc .i64 0 [0,1,62,28,27,36,44,6,55,20,3,10,43,25,39,41,45,15,21,8,18,2,61,56,14])),qg 2 (.alloc (zar .i64 25)),qu 25 2 18] [0,2]) (.seq (qS 2000 [qg 19 (.build (zar .u64 24) (Yc .u64 0 [1,32898,9223372036854808714,9223372039002292224,32907,2147483649,9223372039002292353,9223372036854808585,138,136,2147516425,2147483658,2147516555,9223372036854775947,9223372036854808713,9223372036854808579,9223372036854808578,9223372036854775936,32778,9223372039002259466,9223372039002292353,9223372036854808704,2147483649,9223372039002292232])),qg 3 (.alloc (zar .u64 24)),qu 24 3 19] [0,2,3]) (.seq (qS 3000 [qL 20 24 3,qi 21 0] [0,2,20,21]) (.block 0 (.loop (pO (.close [6002,6003,16011,17013]) pa))))))
def nr:aJ:=⟨124,zr,[],.false,.false⟩
theorem JP:OkF 345 nr:=okq func345
def yY:=cv (a:=gT f346 [[0],[0,3],[0,3,6],[0,3,6,7],[0,3,4,6],[0,3,6],[0,3,6],[2]] [(.close [6012,6013])])
def sc:aJ:=⟨25,mkC yY.1,[.tmp 2],.false,.false⟩
def BM:=cv (a:=lp yY.1 0)
def BX:aQ:=mkC BM.1
theorem P5:OkF 346 sc:=okq func346
def DZ:=cv (a:=gT f348 [[0],[2],[2]])
def pY:aJ:=⟨8,mkC DZ.1,[.tmp 2],.false,.false⟩
theorem Mh:OkF 348 pY:=okq func348
def mo:=cv (a:=gT f349 [[0],[0,3],[3,6,7,8],[3,6,7,8,9],[3,5,6,7,8],[3,5,6,7,8,14],[2],[3,6,7,8],[2]] [(.close [])])
def jc:aJ:=⟨18,mkC mo.1,[.tmp 2],.false,.false⟩
def o3:=cv (a:=lp mo.1 0)
def nR:aQ:=mkC o3.1
theorem AV:OkF 349 jc:=okq func349
def ko:=cv (a:=gT f350 [[0,1],[0,1,5],[0,1,5,6],[0,1,6,11],[12],[4],[4],[0,1,13],[4],[0,1,16],[4],[19],[4],[4]])
def ee:aJ:=⟨20,mkC ko.1,[.tmp 4],.false,.false⟩
theorem qH:OkF 350 ee:=okq func350
def jQ:=cv (a:=gT f351 [[1],[1,3],[3,22,23],[3,22,23,24],[3,5,22,23],[3,5,22,23],[3,22,23,30,31,32],[3,22,23,30,31,32,33],[3,7,22,23,30,31,32],[3,22,23,30,31,32],[3,22,23,30,31,32],[3,22,23],[2]] [(.close [6003,9002,10007,10008,10011]),(.close [9002,10007,10008,10011])])
def jK:aJ:=⟨51,mkC jQ.1,[.tmp 2],.false,.false⟩
def Bj:=cv (a:=lp jQ.1 0)
def Vu:aQ:=mkC Bj.1
def iG:=cv (a:=lp jQ.1 1)
def ep:aQ:=mkC iG.1
theorem DO:OkF 351 jK:=okq func351
def Gn:=cv (a:=gT f354 [[1,2,4],[4]])
def rH:aJ:=⟨14,mkC Gn.1,[.cell 4 (.some 2)],.false,.false⟩
theorem P3:OkF 354 rH:=okq func354
def Xy:=cv (a:=gT f359 [[0,1],[0,1,5],[0,1,5,7],[0,1,5,12],[0,1,5],[0,1,5],[0,1,5],[4]] [(.close [6002,7002])])
def Pa:aJ:=⟨20,mkC Xy.1,[.tmp 4],.false,.false⟩
def W9:=cv (a:=lp Xy.1 0)
def Wn:aQ:=mkC W9.1
theorem b6p:OkF 359 Pa:=okq func359
def Ns:=cv (a:=gT f361 [[0],[2]])
def zw:aJ:=⟨8,mkC Ns.1,[.tmp 2],.false,.false⟩
theorem Wp:OkF 361 zw:=okq func361
def Gh:=cv (a:=gT f362 [[0],[0,3],[0,3,8],[0,3],[2]] [(.close [])])
def Am:aJ:=⟨12,mkC Gh.1,[.tmp 2],.false,.false⟩
def IM:=cv (a:=lp Gh.1 0)
def IU:aQ:=mkC IM.1
theorem ZB:OkF 362 Am:=okq func362
def JF:=cv (a:=gT f364 [[0,1],[0,1,5],[0,1,5,7],[0,1,5,10],[0,1,5],[0,1,5],[0,1,5],[4]] [(.close [5002,6002])])
def CJ:aJ:=⟨20,mkC JF.1,[.tmp 4],.false,.false⟩
def KS:=cv (a:=lp JF.1 0)
def Ke:aQ:=mkC KS.1
theorem a2y:OkF 364 CJ:=okq func364
def Ih:aQ:=(.seq (qS 1000 [qg 0 (.alloc (zar .u64 24))] [0]) (.seq (qS 2000 [qg 1 (.build (zar .u64 24) (Yc .u64 0 [1,32898,9223372036854808714,9223372039002292224,32907,2147483649,9223372039002292353,9223372036854808585,138,136,2147516425,2147483658,2147516555,9223372036854775947,9223372036854808713,9223372036854808579,9223372036854808578,9223372036854775936,32778,9223372039002259466,9223372039002292353,9223372036854808704,2147483649,9223372039002292232])),qu 24 0 1] [0]) .ret))
def ue:aJ:=⟨2,Ih,[.cell 0 (.some 24)],.false,.false⟩
theorem Q7:OkF 365 ue:=okq func365
def Im:aQ:=(.seq (qS 1000 [qg 0 (.alloc (zar .u64 25))] [0]) (.seq (qS 2000 [qg 1 (.build (zar .u64 25) (Yc .u64 0 [0,1,62,28,27,36,44,6,55,20,3,10,43,25,39,41,45,15,21,8,18,2,61,56,14])),qu 25 0 1] [0]) .ret))
def uo:aJ:=⟨2,Im,[.cell 0 (.some 25)],.false,.false⟩
theorem Ro:OkF 366 uo:=okq func366
def NK:=cv (a:=gT f367 [[0,1],[0,1,6],[4],[4]])
def zG:aJ:=⟨16,mkC NK.1,[.tmp 4],.false,.false⟩
theorem ZM:OkF 367 zG:=okq func367
def Jd:=cv (a:=gT f368 [[0],[0,3],[3,6,7,8],[3,6,7,8,9],[3,5,6,7,8],[3,6,7,8],[3,6,7,8],[2]] [(.close [])])
def DM:aJ:=⟨21,mkC Jd.1,[.tmp 2],.false,.false⟩
def L2:=cv (a:=lp Jd.1 0)
def K4:aQ:=mkC L2.1
theorem a2h:OkF 368 DM:=okq func368
def N2:=cv (a:=gT f369 [[0],[2]])
def zX:aJ:=⟨5,mkC N2.1,[.tmp 2],.false,.false⟩
theorem Xo:OkF 369 zX:=okq func369
def N8:=cv (a:=gT f370 [[0],[2]])
def A2:aJ:=⟨6,mkC N8.1,[.tmp 2],.false,.false⟩
theorem XF:OkF 370 A2:=okq func370
def M7:=cv (a:=gT f371 [[0,1,2],[0,2,7],[0,7,14,15,16],[0,7,14,15,16,17],[0,7,8,9,14,15,16],[0,7,8,9,10,14,15,16],[0,7,9,10,14,15,16,30],[0,7,9,10,14,15,16],[0,7,14,15,16],[0,7,14,15,16],[6]] [(.close [6004,9003,9004,9005])])
def H9:aJ:=⟨41,mkC M7.1,[.tmp 6],.false,.false⟩
def NL:=cv (a:=lp M7.1 0)
def NG:aQ:=mkC NL.1
theorem a52:OkF 371 H9:=okq func371
def Mj:=cv (a:=gT f372 [[0,1,2],[0,1,2,8],[0,2,8,9],[0,2,8,9,10],[0,2,8,9,10,20],[0,2,8,9,10,11],[0,2,8,9,10,11,32],[0,2,8,10,11],[0,2,8,10,11],[0,2,8,9,10],[0,2,8,9,10],[0,2,8,9,10],[6,7]] [(.close [10002,10003,11001])])
def GQ:aJ:=⟨50,mkC Mj.1,[.tmp 6,.tmp 7],.false,.false⟩
def N7:=cv (a:=lp Mj.1 0)
def NV:aQ:=mkC N7.1
theorem a5d:OkF 372 GQ:=okq func372
def yk:=cv (a:=gT f373 [[0,1],[0,1],[0,1,11],[4],[0,1,5],[0,1,5,15],[0,1,5],[0,1,5,25],[4],[0,1,5],[4]] [(.close [8005])])
def sg:aJ:=⟨27,mkC yk.1,[.tmp 4],.false,.false⟩
def BP:=cv (a:=lp yk.1 0)
def C4:aQ:=mkC BP.1
theorem Oq:OkF 373 sg:=okq func373
def yp:=cv (a:=gT f374 [[0],[0,3],[0,3,4],[0,3,4,11],[0,3,4],[0,3,4],[2]] [(.close [6006])])
def sa:aJ:=⟨23,mkC yp.1,[.tmp 2],.false,.false⟩
def BT:=cv (a:=lp yp.1 0)
def BQ:aQ:=mkC BT.1
theorem Ov:OkF 374 sa:=okq func374
def yF:=cv (a:=gT f375 [[0,1],[0,1,10],[4],[0,1,5],[0,1,5,14],[0,1,5,26],[4],[0,1,5],[4]] [(.close [7008])])
def sf:aJ:=⟨27,mkC yF.1,[.tmp 4],.false,.false⟩
def BZ:=cv (a:=lp yF.1 0)
def Co:aQ:=mkC BZ.1
theorem ON:OkF 375 sf:=okq func375
def pJ:=cv (a:=gT f376 [[0,1],[0,5],[4]])
def il:aJ:=⟨17,mkC pJ.1,[.tmp 4],.false,.false⟩
theorem zi:OkF 376 il:=okq func376
def zH:=cv (a:=gT f386 [[0,2],[0,2,4],[0],[0,2],[0,2,8],[0,2],[0,2],[0,2,14],[0,2],[0,2],[2]])
def nf:aJ:=⟨25,mkC zH.1,[.tmp 2],.false,.false⟩
theorem JA:OkF 386 nf:=okq func386
end Go.AI.Fn
