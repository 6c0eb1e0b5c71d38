/- Codes. -/
import Derived.Test.YtdnkignjanfikaaGreatTb0
set_option linter.unusedVariables false
set_option maxRecDepth 100000
set_option maxHeartbeats 2000000
namespace Go.AI.Fn
open Proofs.Tryz
def AT:=cv (a:=gT f231 [[0,3,4],[0,3,4,5],[0,3,4,5,6],[0,3,4,5,6,14],[0,3,4,5,6,7],[0,3,4,5,6,7,8],[0,3,4,5,6,7,8,9],[0,3,4,5,6,7,8,9,24],[0,3,4,5,6,7,8,9,29],[0,3,4,5,6,7,8,9],[0,3,4,5,6,7,8,9],[0,3,4,5,6,7,8,9],[0,3,4,5,6],[0,3,4,5,6],[4]] [(.close [6004,12003,12004,12005,13003,13004,14003,14004,14005,14006]),(.close [12003,12004,12005,13003,13004])])
def Am:aJ:=⟨49,mkC AT.1,[.cell 4 (.some 2)],.false,.false⟩
def IJ:=cv (a:=lp AT.1 0)
def In:aP:=mkC IJ.1
def Ix:=cv (a:=lp AT.1 1)
def Jf:aP:=mkC Ix.1
theorem ZN:OkF 231 Am:=okq func231
def Tc:=cv (a:=gT f232 [[2,3,4],[4]])
def DC:aJ:=⟨30,mkC Tc.1,[.cell 4 (.some 2)],.false,.false⟩
theorem a3C:OkF 232 DC:=okq func232
def Gg:=cv (a:=gT f233 [[0,1,4],[0,1,4,5],[0,1,4,5,6],[0,1,4,5,6,11],[0,1,4,5,6],[0,1,4,5,6],[4]] [(.close [6009,6014,6019,6020,6021,6022])])
def AB:aJ:=⟨38,mkC Gg.1,[.cell 4 (.some 2)],.false,.false⟩
def J5:=cv (a:=lp Gg.1 0)
def Im:aP:=mkC J5.1
theorem a0a:OkF 233 AB:=okq func233
def Oz:=cv (a:=gT f234 [[1,2,3],[1,7],[1,8],[6]])
def Au:aJ:=⟨31,mkC Oz.1,[.tmp 6],.false,.false⟩
theorem a1d:OkF 234 Au:=okq func234
def D7:=cv (a:=gT f235 [[0,1,2,3,4,12,13],[0,1,2,3,4,12,13,15],[0,1,2,3,4,12,13,15,16],[0,1,2,3,4,12,13,15,16,24],[0,1,2,3,4,12,13,15,16,17],[0,1,2,3,4,12,13,15,16,17,18],[0,1,2,3,4,12,13,15,16,17,18],[0,1,2,3,4,12,13,15,16,17,18,19],[0,1,2,3,4,12,13,15,16,17,18,19,20],[0,1,2,3,4,12,13,15,16,17,18,19,20,65],[14],[0,1,2,3,4,12,13,15,16,17,19,20,84],[14],[0,1,3,4,12,13,15,16,17],[0,1,2,3,4,12,13,15,16],[0,1,2,3,4,12,13,15,16],[98],[14],[14]] [(.close [9006,10007,11008,11009,11016,15008])])
def xx:aJ:=⟨99,mkC D7.1,[.tmp 14],.false,.false⟩
def GR:=cv (a:=lp D7.1 0)
def G0:aP:=mkC GR.1
theorem Wx:OkF 235 xx:=okq func235
def j6:=cv (a:=gT f236 [[0,1],[4]])
def dF:aJ:=⟨9,mkC j6.1,[.tmp 4],.false,.false⟩
theorem oO:OkF 236 dF:=okq func236
def F8:=cv (a:=gT f237 [[0,1],[3]])
def rf:aJ:=⟨13,mkC F8.1,[.tmp 3],.false,.false⟩
theorem MV:OkF 237 rf:=okq func237
def fy:=cv (a:=gT f238 [[0,1],[4]])
def cy:aJ:=⟨9,mkC fy.1,[.tmp 4],.false,.false⟩
theorem oS:OkF 238 cy:=okq func238
def C4:=cv (a:=gT f239 [[0,1],[3]])
def oR:aJ:=⟨8,mkC C4.1,[.tmp 3],.false,.false⟩
theorem KP:OkF 239 oR:=okq func239
def iz:=cv (a:=gT f240 [[0,1],[4]])
def dq:aJ:=⟨9,mkC iz.1,[.tmp 4],.false,.false⟩
theorem nX:OkF 240 dq:=okq func240
def An:=cv (a:=gT f241 [[1,2],[3]])
def nL:aJ:=⟨8,mkC An.1,[.tmp 3],.false,.false⟩
theorem JO:OkF 241 nL:=okq func241
def Bm:=cv (a:=gT f242 [[0],[0,3],[0,3,7],[0,3,15],[2],[0,3],[2]] [(.close [5004])])
def uM:aJ:=⟨16,mkC Bm.1,[.tmp 2],.false,.false⟩
def ET:=cv (a:=lp Bm.1 0)
def EW:aP:=mkC ET.1
theorem RP:OkF 242 uM:=okq func242
def Sc:=cv (a:=gT f243 [[0,1],[4]])
def Ds:aJ:=⟨9,mkC Sc.1,[.tmp 4],.false,.false⟩
theorem a2v:OkF 243 Ds:=okq func243
def Uf:=cv (a:=gT f244 [[0,1],[4]])
def Eb:aJ:=⟨10,mkC Uf.1,[.tmp 4],.false,.false⟩
theorem a4K:OkF 244 Eb:=okq func244
def Sv:=cv (a:=gT f245 [[0,1],[4]])
def DU:aJ:=⟨9,mkC Sv.1,[.tmp 4],.false,.false⟩
theorem a3L:OkF 245 DU:=okq func245
def ld:=cv (a:=gT f247 [[0,1],[4]])
def fi:aJ:=⟨9,mkC ld.1,[.tmp 4],.false,.false⟩
theorem tg:OkF 247 fi:=okq func247
def Jk:=cv (a:=gT f248 [[0,1],[3]])
def uG:aJ:=⟨8,mkC Jk.1,[.tmp 3],.false,.false⟩
theorem Ur:OkF 248 uG:=okq func248
def DP:=cv (a:=gT f250 [[2,4,5,7,8],[2,7,8,9],[2,7,8,9,10],[2,7,8,9,10,28],[2,7,8,9,10],[2,7,8,9,10],[8]] [(.close [6005])])
def xQ:aJ:=⟨42,mkC DP.1,[.cell 8 (.some 4)],.false,.false⟩
def H7:=cv (a:=lp DP.1 0)
def Hh:aP:=mkC H7.1
theorem Vq:OkF 250 xQ:=okq func250
def GP:=cv (a:=gT f251 [[0,1],[0,5],[0,5,6],[0,5,6,12],[0,5,6],[0,5,6],[4]] [(.close [6006])])
def Aa:aJ:=⟨24,mkC GP.1,[.tmp 4],.false,.false⟩
def Iu:=cv (a:=lp GP.1 0)
def Iy:aP:=mkC Iu.1
theorem ZP:OkF 251 Aa:=okq func251
def uC:=cv (a:=gT f252 [[1,2,3],[1,2,7],[1,2,7,8],[1,2,7,8],[1,2,7,8,9],[1,2,7,8,9,24],[1,2,7,8,9],[1,2,7,8,9],[2,7,8,10],[2,7,8,10,38],[2,7,8,10],[2,7,8,10],[6]] [(.close []),(.close [])])
def uZ:aJ:=⟨51,mkC uC.1,[.tmp 6],.false,.false⟩
def Ep:=cv (a:=lp uC.1 0)
def EJ:aP:=mkC Ep.1
def Ew:=cv (a:=lp uC.1 1)
def Et:aP:=mkC Ew.1
theorem U7:OkF 252 uZ:=okq func252
def FF:=cv (a:=gT f253 [[1,2,4],[1,2,4,6],[1,2,4,6,7],[1,2,4,6,7,13],[1,2,4,6,7,8,9],[1,2,4,6,7,9],[1,2,4,6,7],[1,2,4,6,7],[4,5]] [(.close [6001,6005,6006,8002,8003])])
def AN:aJ:=⟨28,mkC FF.1,[.cell 4 (.some 4),.tmp 5],.false,.false⟩
def J1:=cv (a:=lp FF.1 0)
def Ih:aP:=mkC J1.1
theorem Zy:OkF 253 AN:=okq func253
def y7:=cv (a:=gT f256 [[1,2,3],[1,2,3,7],[2,3,7,8],[2,7,8,9],[2,7,8,9,10],[2,7,8,9,10,28],[2,7,8,9,10,11],[2,7,8,9,10,11,37],[2,7,8,9,10,11,12],[2,7,8,9,10,11],[2,7,8,9,10,11],[2,7,8,9,10],[6]] [(.close [11007,12014,12020,12021,12022]),(.close [11007,12014,12020,12021,12022])])
def xm:aJ:=⟨72,mkC y7.1,[.tmp 6],.false,.false⟩
def GT:=cv (a:=lp y7.1 0)
def Gd:aP:=mkC GT.1
def Fv:=cv (a:=lp y7.1 1)
def FX:aP:=mkC Fv.1
theorem Vl:OkF 256 xm:=okq func256
def MO:=cv (a:=gT f257 [[0,1,4],[0,4,5],[0,4,5,6],[0,4,5,6,7],[0,4,5,6,7,14],[0,4,5,6,7],[0,4,5,6,7],[4]] [(.close [7009,7010])])
def HA:aJ:=⟨29,mkC MO.1,[.cell 4 (.some 2)],.false,.false⟩
def Oe:=cv (a:=lp MO.1 0)
def Oi:aP:=mkC Oe.1
theorem a6o:OkF 257 HA:=okq func257
def FK:=cv (a:=gT f258 [[1],[1,4],[1,4,5],[1,4,5,6],[1,4,5,6,7],[1,4,5,6,7,8],[1,4,5,6,7,8,9],[1,4,5,6,7,8,9,21],[1,4,5,6,7,8,9,30],[1,4,5,6,7,8,9],[1,4,5,6,7,8,9],[1,4,5,6,7,8,9],[1,4,5,6,7,8,9],[1,4,5,6,7,8,9],[2,3]] [(.close [12002,12003,13004,13005])])
def A0:aJ:=⟨47,mkC FK.1,[.tmp 2,.tmp 3],.false,.false⟩
def Jz:=cv (a:=lp FK.1 0)
def Ir:aP:=mkC Jz.1
theorem ZX:OkF 258 A0:=okq func258
def E4:=cv (a:=gT f259 [[0,1,2,3],[0,1,2,3,9],[0,1,2,3,9,35],[0,1,2,3,9],[0,1,2,3,9,59],[0,1,2,9,10],[0,1,2,9,10,11],[0,1,2,9,10,11,75],[0,9,11],[8],[8]] [(.close [])])
def xl:aJ:=⟨103,mkC E4.1,[.tmp 8],.false,.false⟩
def FV:=cv (a:=lp E4.1 0)
def Gw:aP:=mkC FV.1
theorem Vo:OkF 259 xl:=okq func259
def O5:=cv (a:=gT f260 [[1,2],[1,2,9],[4],[1,2,5],[2,52],[4],[2,55],[4],[4]])
def A6:aJ:=⟨62,mkC O5.1,[.tmp 4],.false,.false⟩
theorem a1g:OkF 260 A6:=okq func260
def Lg:=cv (a:=gT f261 [[1],[2]])
def xW:aJ:=⟨49,mkC Lg.1,[.tmp 2],.false,.false⟩
theorem VH:OkF 261 xW:=okq func261
def Dz:=cv (a:=gT f262 [[0],[0,3],[0,3,4],[0,3,4,9],[0,3,4],[0,3,4],[2]] [(.close [6006,6007,6013,6014])])
def xV:aJ:=⟨28,mkC Dz.1,[.tmp 2],.false,.false⟩
def FQ:=cv (a:=lp Dz.1 0)
def FE:aP:=mkC FQ.1
theorem Vr:OkF 262 xV:=okq func262
def B5:=cv (a:=gT f268 [[0,2,3,6,9,11,12],[0,2,3,6,9,11,12,22],[10,11,12,13],[0,2,3,6,9,11,12,14],[0,2,3,6,9,11,12,14,15],[0,2,3,6,9,11,12,14,15,29],[0,2,3,6,9,11,12,14,15,16],[0,2,3,6,9,11,12,14,15,16,41],[10,11,12,13],[0,2,3,6,9,11,12,14,15,16,53],[10,11,12,13],[0,2,3,6,9,11,12,14,15,16],[0,2,3,6,9,11,12,14,15,16,17,18],[0,2,3,6,9,11,12,14,15,16,18],[0,2,3,6,9,11,12,14,15,18],[0,2,3,6,9,11,12,14,15],[0,2,3,6,9,11,12,14,15],[10,11,12,13]] [(.close [9003,10000,11006,12000,13002,14001,14005,14006,16002,17002,17003])])
def v6:aJ:=⟨76,mkC B5.1,[.tmp 10,.cell 11 (.some 2),.cell 12 (.some 4),.tmp 13],.false,.false⟩
def EF:=cv (a:=lp B5.1 0)
def EC:aP:=mkC EF.1
theorem RH:OkF 268 v6:=okq func268
def Fy:=cv (a:=gT f269 [[0,1,4],[1,4,6],[4],[4]])
def sQ:aJ:=⟨29,mkC Fy.1,[.cell 4 (.some 2)],.false,.false⟩
theorem Pp:OkF 269 sQ:=okq func269
def NR:=cv (a:=gT f270 [[1,2],[2]])
def AL:aJ:=⟨6,mkC NR.1,[.cell 2 (.some 2)],.false,.false⟩
theorem Y8:OkF 270 AL:=okq func270
def IG:=cv (a:=gT f271 [[1,2,3,6],[6]])
def uN:aJ:=⟨25,mkC IG.1,[.cell 6 (.some 2)],.false,.false⟩
theorem Tq:OkF 271 uN:=okq func271
def B0:=cv (a:=gT f272 [[0,1],[0,1],[0,1,11],[4],[0,1,5],[0,1,5,15],[0,1,5],[0,1,5,26],[4],[0,1,5],[4]] [(.close [])])
def uL:aJ:=⟨28,mkC B0.1,[.tmp 4],.false,.false⟩
def ER:=cv (a:=lp B0.1 0)
def F7:aP:=mkC ER.1
theorem Ui:OkF 272 uL:=okq func272
def El:=cv (a:=gT f273 [[0,1],[0,1],[0,1,11],[4],[0,1,5],[0,1,5,15],[0,1,5],[0,1,5,25],[4],[0,1,5],[4]] [(.close [8005])])
def xj:aJ:=⟨27,mkC El.1,[.tmp 4],.false,.false⟩
def Hf:=cv (a:=lp El.1 0)
def GB:aP:=mkC Hf.1
theorem VI:OkF 273 xj:=okq func273
def SS:=cv (a:=gT f274 [[1,2],[1,2,3],[1,2,3],[1,2,3],[1,2,3],[2,3],[2]])
def DM:aJ:=⟨17,mkC SS.1,[.cell 2 (.some 4)],.false,.false⟩
theorem a3q:OkF 274 DM:=okq func274
def Bp:=cv (a:=gT f275 [[0],[0,3],[0,3,4],[0,3,4,11],[0,3,4],[0,3,4],[2]] [(.close [])])
def vq:aJ:=⟨22,mkC Bp.1,[.tmp 2],.false,.false⟩
def F6:=cv (a:=lp Bp.1 0)
def Fb:aP:=mkC F6.1
theorem T6:OkF 275 vq:=okq func275
def Dl:=cv (a:=gT f276 [[0],[0,3],[0,3,4],[0,3,4,11],[0,3,4],[0,3,4],[2]] [(.close [6006])])
def xp:aJ:=⟨23,mkC Dl.1,[.tmp 2],.false,.false⟩
def GF:=cv (a:=lp Dl.1 0)
def GX:aP:=mkC GF.1
theorem VG:OkF 276 xp:=okq func276
def R4:=cv (a:=gT f277 [[2,3],[2,3,9],[4],[2,3,14],[4],[2,3,19],[4],[24],[4],[4]])
def E0:aJ:=⟨25,mkC R4.1,[.tmp 4],.false,.false⟩
theorem a3k:OkF 277 E0:=okq func277
def B4:=cv (a:=gT f278 [[0,1],[0,1,10],[4],[0,1,5],[0,1,5,14],[0,1,5,25],[4],[0,1,5],[4]] [(.close [])])
def uU:aJ:=⟨26,mkC B4.1,[.tmp 4],.false,.false⟩
def F5:=cv (a:=lp B4.1 0)
def EU:aP:=mkC F5.1
theorem Ub:OkF 278 uU:=okq func278
def Di:=cv (a:=gT f279 [[0,1],[0,1,10],[4],[0,1,5],[0,1,5,14],[0,1,5,26],[4],[0,1,5],[4]] [(.close [7008])])
def y4:aJ:=⟨27,mkC Di.1,[.tmp 4],.false,.false⟩
def Gt:=cv (a:=lp Di.1 0)
def GU:aP:=mkC Gt.1
theorem Vf:OkF 279 y4:=okq func279
def hJ:=cv (a:=gT f283 [[0,1],[0,1,7,8],[0,1,7,8,9],[0,1,5,7,8],[0,1,5,7,8,16],[4],[0,1,7,8],[4]] [(.close [5005])])
def eJ:aJ:=⟨19,mkC hJ.1,[.tmp 4],.false,.false⟩
def jZ:=cv (a:=lp hJ.1 0)
def k8:aP:=mkC jZ.1
theorem sR:OkF 283 eJ:=okq func283
def DF:aP:=(.seq (qS 4000 [qb 13 .lss 12 11] [3,10,11,12,13]) (.seq (.cond (.t 13) .skip (.exit 0)) (.seq (.block 1 (.seq (qS 5000 [qx 14 1 10 12,ql 15 14,qm 5 15] [3,5,10,11,12]) (qS 6000 [qm 16 3,qm 17 5,qg 18 (.append 1 1 [(.int .u8 0)] (.t 16) (.t 17)),qm 3 18] [3,10,11,12]))) (qS 7000 [qB 19 .add 12 1,qm 12 19] [3,10,11,12]))))
def Do:aP:=(.seq (.seq (qS 9000 [qm 23 3,qn 24 23,qB 25 .rem 24 136,qB 26 .neq 25 0] [3,26]) (.cond (.t 26) .skip (.exit 2))) (.block 3 (qS 10000 [qm 27 3,qg 28 (.buildSlice 1 [(.int .u8 0)] 1 [(0,(.c (.int .u8 0)))]),qg 29 (.append 1 1 [(.int .u8 0)] (.t 27) (.t 28)),qm 3 29] [3])))
def B3:aP:=(.seq (qS 16000 [qB 48 .lss 47 25] [3,6,46,47,48]) (.seq (.cond (.t 48) .skip (.exit 6)) (.seq (.block 7 (.seq (qS 17000 [qm 49 47,qg 50 (.ixAgg 25 1 .none (.t 46) (.t 47)),qm 7 49,qm 8 50] [3,6,7,8,46,47]) (qS 18000 [qm 51 7,qX 52 25 1 6 51,ql 53 52,qm 54 8,qb 55 .xor 53 54,qX 56 25 1 6 51,qu 1 56 55] [3,6,46,47]))) (qS 19000 [qB 57 .add 47 1,qm 47 57] [3,6,46,47]))))
def AX:aP:=(.seq (.seq (qS 13000 [qm 39 3,qn 40 39,qB 41 .gtr 40 0] [3,6,41]) (.cond (.t 41) .skip (.exit 4))) (.seq (.block 5 (.seq (.seq (qS 15000 [qm 44 3,qg 45 (.slice 1 (.t 44) .none (.some (qI 136)) .none),qc 46 344 [45],qi 47 0] [3,6,46,47]) (.block 6 (.loop (qj (.close []) B3)))) (qS 20000 [qc 58 345 [6]] [3,6]))) (qS 14000 [qm 42 3,qg 43 (.slice 1 (.t 42) (.some (qI 136)) .none .none),qm 3 43] [3,6])))
def SQ:aP:=(.seq (qS 1000 [qg 2 (.mv (.c (.string ⟨⟨[]⟩⟩)))] [0]) (.seq (qS 2000 [qg 9 (.buildSlice 1 [(.int .u8 0)] 0 []),qm 3 9] [0,3]) (.seq (.seq (qS 3000 [qm 10 0,qn 11 10,qi 12 0] [3,10,11,12]) (.block 0 (.loop (qj (.close [6002]) DF)))) (.seq (qS 8000 [qm 20 3,qg 21 (.buildSlice 1 [(.int .u8 0)] 1 [(0,(.c (.int .u8 1)))]),qg 22 (.append 1 1 [(.int .u8 0)] (.t 20) (.t 21)),qm 3 22] [3]) (.seq (.block 2 (.loop (qj (.close [10001,10002]) Do))) (.seq (qS 11000 [qm 30 3,qm 31 3,qn 32 31,qB 33 .sub 32 1,qx 34 1 30 33,ql 35 34,qg 36 (.bin .or (.t 35) (.c (.int .u8 128))),qx 37 1 30 33,qu 1 37 36] [3]) (.seq (qS 12000 [qg 38 (.build (zar .u64 25) []),qg 6 (.alloc (zar .u64 25)),qu 25 6 38] [3,6]) (.seq (.block 4 (.loop (qj (.close [15002,20000,2000]) AX))) (.seq (qS 21000 [qc 59 346 [6],qg 60 (.slice 1 (.t 59) .none (.some (qI 32)) .none),qg 61 (.toStr (.t 60)),qm 2 61] [2]) .ret)))))))))
def Ef:aJ:=⟨62,SQ,[.tmp 2],.false,.false⟩
theorem a2x:OkF 284 Ef:=okq func284
def Cb:=cv (a:=gT f285 [[0,1,2],[5]])
def oJ:aJ:=⟨13,mkC Cb.1,[.tmp 5],.true,.false⟩
theorem Mo:OkF 285 oJ:=okq func285
def BB:=cv (a:=gT f286 [[0,2,3,11,12,13],[0,2,3,11,12,13,14],[0,2,3,9,11,12,13],[0,2,3,9,10,11,12,13],[0,2,3,11,12,13],[0,2,3,11,12,13],[0],[]] [(.close [3002,4007,5013])])
def uo:aJ:=⟨70,mkC BB.1,[],.false,.false⟩
def F9:=cv (a:=lp BB.1 0)
def Fi:aP:=mkC F9.1
theorem S7:OkF 286 uo:=okq func286
def mZ:=cv (a:=gT f288 [[2,3],[4]])
def fO:aJ:=⟨17,mkC mZ.1,[.tmp 4],.false,.false⟩
theorem tU:OkF 288 fO:=okq func288
def T9:=cv (a:=gT f289 [[0],[0,3],[3,7,8,9],[3,7,8,9,10],[3,5,7,8,9],[3,7,8,9],[3,7,8,9],[2]] [(.close [6003,6004])])
def Ld:aJ:=⟨20,mkC T9.1,[.tmp 2],.false,.false⟩
def Tu:=cv (a:=lp T9.1 0)
def T2:aP:=mkC Tu.1
theorem a9M:OkF 289 Ld:=okq func289
def Bl:=cv (a:=gT f290 [[2,3,4],[2,7],[7,26,27,28],[7,26,27,28,29],[7,9,26,27,28],[7,26,27,28],[7,26,27,28],[6]] [(.close [6002])])
def vm:aJ:=⟨37,mkC Bl.1,[.tmp 6],.false,.false⟩
def Fg:=cv (a:=lp Bl.1 0)
def EM:aP:=mkC Fg.1
theorem Re:OkF 290 vm:=okq func290
def sG:=cv (a:=gT f293 [[1,3,5],[3,5,7,8],[5,7,8,20,21],[5,7,8,20,21,22],[5,7,8,9,10,20,21],[5,7,8,9,20,21,25,26,27],[5,7,8,9,20,21,25,26,27,28],[5,7,8,9,12,20,21,25,26,27],[5,7,8,9,20,21,25,26,27],[5,7,8,9,20,21,25,26,27],[5,7,8,20,21],[6]] [(.close [8002,9016,9019,9020]),(.close [8002,9016,9019,9020])])
def sA:aJ:=⟨56,mkC sG.1,[.tmp 6],.false,.false⟩
def MF:=cv (a:=lp sG.1 0)
def a9A:aP:=mkC MF.1
def p7:=cv (a:=lp sG.1 1)
def jA:aP:=mkC p7.1
theorem Pr:OkF 293 sA:=okq func293
def KA:=cv (a:=gT f297 [[0],[0,3],[3,6,7,8],[3,6,7,8,9],[3,5,6,7,8],[3,6,7,8],[3,6,7,8],[2]] [(.close [])])
def DG:aJ:=⟨19,mkC KA.1,[.tmp 2],.false,.false⟩
def LP:=cv (a:=lp KA.1 0)
def M1:aP:=mkC LP.1
theorem a5k:OkF 297 DG:=okq func297
def Oq:=cv (a:=gT f298 [])
def zM:aJ:=⟨2,mkC Oq.1,[],.false,.false⟩
theorem Z8:OkF 298 zM:=okq func298
def OB:=cv (a:=gT f299 [[0,1,4],[1,4,6],[4],[4]])
def A7:aJ:=⟨29,mkC OB.1,[.cell 4 (.some 2)],.false,.false⟩
theorem YM:OkF 299 A7:=okq func299
def NI:=cv (a:=gT f300 [[3,4,5,6],[6]])
def Ai:aJ:=⟨14,mkC NI.1,[.cell 6 (.some 2)],.false,.false⟩
theorem a0u:OkF 300 Ai:=okq func300
def Mh:=cv (a:=gT f301 [[1,2,3,6],[6]])
def xP:aJ:=⟨17,mkC Mh.1,[.cell 6 (.some 2)],.false,.false⟩
theorem UC:OkF 301 xP:=okq func301
def Sd:=cv (a:=gT f303 [[0],[3],[2],[2]])
def D4:aJ:=⟨4,mkC Sd.1,[.tmp 2],.false,.false⟩
theorem a32:OkF 303 D4:=okq func303
def CX:=cv (a:=gT f304 [[0],[0,3],[0,3,4],[0,3,4,6],[0,3,4],[0,3,4],[2]] [(.close [])])
def xG:aJ:=⟨18,mkC CX.1,[.tmp 2],.false,.false⟩
def Gx:=cv (a:=lp CX.1 0)
def Gm:aP:=mkC Gx.1
theorem VZ:OkF 304 xG:=okq func304
def KR:=cv (a:=gT f305 [[0],[2]])
def xg:aJ:=⟨5,mkC KR.1,[.tmp 2],.false,.false⟩
theorem Ux:OkF 305 xg:=okq func305
def Lc:=cv (a:=gT f306 [[0,1],[4]])
def xY:aJ:=⟨9,mkC Lc.1,[.tmp 4],.false,.false⟩
theorem Vu:OkF 306 xY:=okq func306
def a2T:=cv (a:=gT f308 [[0],[2]])
def Lb:aJ:=⟨7,mkC a2T.1,[.tmp 2],.false,.false⟩
theorem b0a:OkF 308 Lb:=okq func308
def Xu:=cv (a:=gT f309 [[0],[2]])
def Hn:aJ:=⟨7,mkC Xu.1,[.tmp 2],.false,.false⟩
theorem a6K:OkF 309 Hn:=okq func309
def Qt:=cv (a:=gT f310 [[0],[0]])
def Dm:aJ:=⟨2,mkC Qt.1,[.cell 0 (.some 2)],.false,.false⟩
theorem a4E:OkF 310 Dm:=okq func310
def It:=cv (a:=gT f313 [[0],[2]])
def vl:aJ:=⟨5,mkC It.1,[.tmp 2],.false,.false⟩
theorem SL:OkF 313 vl:=okq func313
def Xv:=cv (a:=gT f315 [[0,2],[2]])
def HL:aJ:=⟨5,mkC Xv.1,[.cell 2 (.some 2)],.false,.false⟩
theorem a7B:OkF 315 HL:=okq func315
def OF:=cv (a:=gT f317 [[0,1,7,8,9,10],[7,8,9,10,11],[7,8,9,10,11,12],[7,8,9,10,11,12,13],[9,10,13,14],[10]])
def zT:aJ:=⟨41,mkC OF.1,[.cell 10 (.some 2)],.false,.false⟩
theorem Yp:OkF 317 zT:=okq func317
def OV:=cv (a:=gT f318 [[0],[2]])
def zX:aJ:=⟨6,mkC OV.1,[.tmp 2],.false,.false⟩
theorem Zk:OkF 318 zX:=okq func318
def zx:aP:=(.seq (.seq (qS 4000 [qm 6 4,qm 7 0,qg 8 (.len .true (.t 7)),qb 9 .lss 6 8] [0,2,3,4,9]) (.cond (.t 9) .skip (.exit 0))) (.seq (.block 1 (.drawn 6000 [qm 12 4,qB 13 .quo 12 8,qX 14 25 1 3 13,ql 15 14,qm 16 0,qm 17 4,qg 18 (.ixStr (.t 16) (.t 17)),qg 19 (.toInt .u64 (.t 18)),qm 20 4,qB 21 .rem 20 8,qD 22 .mul 8 21,qg 23 (.toInt .u64 (.t 22)),qb 24 .shl 19 23,qb 25 .or 15 24,qX 26 25 1 3 13,qu 1 26 25] [[],[0],[1,0],[2,1,0],[],[],[4,5],[6,4,5],[],[8],[9,8],[10,9,8],[7,6,4,5,11,10,9,8],[3,2,1,0,12,7,6,4,5,11,10,9,8],[1,0,2,3,4,5,6,7,8,9,10,11,12,13],[14,1,0,2,3,4,5,6,7,8,9,10,11,12,13]] [0,2,3,4])) (qS 5000 [qm 10 4,qB 11 .add 10 1,qm 4 11] [0,2,3,4])))
def LB:aP:=(.seq (qS 1000 [qg 2 (.alloc (zar .u64 25))] [0,2]) (.seq (qS 2000 [qg 5 (.build (zar .u64 25) []),qg 3 (.alloc (zar .u64 25)),qu 25 3 5] [0,2,3]) (.seq (.seq (qS 3000 [qi 4 0] [0,2,3,4]) (.block 0 (.loop (qj (.close []) zx)))) (.seq (qS 7000 [qL 27 25 3,qu 25 2 27] [2]) .ret))))
def xB:aJ:=⟨28,LB,[.cell 2 (.some 25)],.false,.false⟩
theorem WE:OkF 321 xB:=okq func321
def ue:aP:=(.seq (.seq (qS 9000 [qm 21 7,qB 22 .lss 21 5] [1,2,3,4,5,6,7,22]) (.cond (.t 22) .skip (.exit 2))) (.seq (.block 3 (.drawn 11000 [qm 25 7,qm 26 7,qX 27 25 1 1 26,ql 28 27,qm 29 7,qB 30 .add 29 5,qX 31 25 1 1 30,ql 32 31,qb 33 .xor 28 32,qm 34 7,qB 35 .add 34 10,qX 36 25 1 1 35,ql 37 36,qb 38 .xor 33 37,qm 39 7,qB 40 .add 39 15,qX 41 25 1 1 40,ql 42 41,qb 43 .xor 38 42,qm 44 7,qB 45 .add 44 20,qX 46 25 1 1 45,ql 47 46,qb 48 .xor 43 47,qX 49 5 1 6 25,qu 1 49 48] [[],[],[1],[2,1],[],[4],[5,4],[6,5,4],[3,2,1,7,6,5,4],[],[9],[10,9],[11,10,9],[8,3,2,1,7,6,5,4,12,11,10,9],[],[14],[15,14],[16,15,14],[13,8,3,2,1,7,6,5,4,12,11,10,9,17,16,15,14],[],[19],[20,19],[21,20,19],[18,13,8,3,2,1,7,6,5,4,12,11,10,9,17,16,15,14,22,21,20,19],[0,1,2,3,4,5,6,7,8,9,10,11,12,13,14,15,16,17,18,19,20,21,22,23],[24,0,1,2,3,4,5,6,7,8,9,10,11,12,13,14,15,16,17,18,19,20,21,22,23]] [1,2,3,4,5,6,7])) (qS 10000 [qm 23 7,qB 24 .add 23 1,qm 7 24] [1,2,3,4,5,6,7])))
def sn:aP:=(.seq (.seq (qS 13000 [qm 50 8,qB 51 .lss 50 25] [1,2,3,4,5,6,8,51]) (.cond (.t 51) .skip (.exit 4))) (.seq (.block 5 (.drawn 15000 [qm 54 8,qX 55 25 1 1 54,ql 56 55,qm 57 8,qB 58 .add 57 4,qB 59 .rem 58 5,qX 60 5 1 6 59,ql 61 60,qm 62 8,qB 63 .add 62 1,qB 64 .rem 63 5,qX 65 5 1 6 64,ql 66 65,qg 67 (.call 367 [(.t 66),(.c (.int .u64 1))]),qb 68 .xor 61 67,qb 69 .xor 56 68,qX 70 25 1 1 54,qu 1 70 69] [[],[0],[1,0],[],[3],[4,3],[5,4,3],[6,5,4,3],[],[8],[9,8],[10,9,8],[11,10,9,8],[12,11,10,9,8],[7,6,5,4,3,13,12,11,10,9,8],[2,1,0,14,7,6,5,4,3,13,12,11,10,9,8],[0,1,2,3,4,5,6,7,8,9,10,11,12,13,14,15],[16,0,1,2,3,4,5,6,7,8,9,10,11,12,13,14,15]] [1,2,3,4,5,6,8])) (qS 14000 [qm 52 8,qB 53 .add 52 1,qm 8 53] [1,2,3,4,5,6,8])))
def sU:aP:=(.seq (.seq (qS 21000 [qm 76 11,qB 77 .lss 76 5] [1,2,3,4,5,9,10,11,77]) (.cond (.t 77) .skip (.exit 8))) (.seq (.block 9 (.drawn 23000 [qm 80 11,qm 81 10,qD 82 .mul 2 81,qm 83 11,qD 84 .mul 3 83,qb 85 .add 82 84,qB 86 .rem 85 5,qD 87 .mul 5 86,qb 88 .add 80 87,qm 89 10,qm 90 11,qD 91 .mul 5 90,qb 92 .add 89 91,qX 93 25 1 1 92,ql 94 93,qm 95 10,qm 96 11,qD 97 .mul 5 96,qb 98 .add 95 97,qX 99 25 1 4 98,ql 100 99,qc 101 367 [94,100],qX 102 25 1 9 88,qu 1 102 101] [[],[],[1],[],[3],[2,1,4,3],[5,2,1,4,3],[6,5,2,1,4,3],[0,7,6,5,2,1,4,3],[],[],[10],[9,11,10],[12,9,11,10],[13,12,9,11,10],[],[],[16],[15,17,16],[18,15,17,16],[19,18,15,17,16],[14,13,12,9,11,10,20,19,18,15,17,16],[8,0,7,6,5,2,1,4,3,9,10,11,12,13,14,15,16,17,18,19,20,21],[22,8,0,7,6,5,2,1,4,3,9,10,11,12,13,14,15,16,17,18,19,20,21]] [1,2,3,4,5,9,10,11])) (qS 22000 [qm 78 11,qB 79 .add 78 1,qm 11 79] [1,2,3,4,5,9,10,11])))
def sd:aP:=(.seq (.seq (qS 18000 [qm 72 10,qB 73 .lss 72 5] [1,2,3,4,5,9,10,73]) (.cond (.t 73) .skip (.exit 6))) (.seq (.block 7 (.seq (qS 20000 [qi 11 0] [1,2,3,4,5,9,10,11]) (.block 8 (.loop (qj (.close [23021]) sU))))) (qS 19000 [qm 74 10,qB 75 .add 74 1,qm 10 75] [1,2,3,4,5,9,10])))
def sC:aP:=(.seq (.seq (qS 28000 [qm 107 13,qB 108 .lss 107 5] [1,2,3,4,5,9,12,13,108]) (.cond (.t 108) .skip (.exit 12))) (.seq (.block 13 (.drawn 30000 [qm 111 12,qm 112 13,qD 113 .mul 5 112,qb 114 .add 111 113,qm 115 12,qm 116 13,qD 117 .mul 5 116,qb 118 .add 115 117,qX 119 25 1 9 118,ql 120 119,qm 121 12,qB 122 .add 121 1,qB 123 .rem 122 5,qm 124 13,qD 125 .mul 5 124,qb 126 .add 123 125,qX 127 25 1 9 126,ql 128 127,qg 129 (.un .xor (.t 128)),qm 130 12,qB 131 .add 130 2,qB 132 .rem 131 5,qm 133 13,qD 134 .mul 5 133,qb 135 .add 132 134,qX 136 25 1 9 135,ql 137 136,qb 138 .and 129 137,qb 139 .xor 120 138,qX 140 25 1 1 114,qu 1 140 139] [[],[],[1],[0,2,1],[],[],[5],[4,6,5],[7,4,6,5],[8,7,4,6,5],[],[10],[11,10],[],[13],[12,11,10,14,13],[15,12,11,10,14,13],[16,15,12,11,10,14,13],[17,16,15,12,11,10,14,13],[],[19],[20,19],[],[22],[21,20,19,23,22],[24,21,20,19,23,22],[25,24,21,20,19,23,22],[18,17,16,15,12,11,10,14,13,26,25,24,21,20,19,23,22],[9,8,7,4,6,5,27,18,17,16,15,12,11,10,14,13,26,25,24,21,20,19,23,22],[3,0,2,1,4,5,6,7,8,9,10,11,12,13,14,15,16,17,18,19,20,21,22,23,24,25,26,27,28],[29,3,0,2,1,4,5,6,7,8,9,10,11,12,13,14,15,16,17,18,19,20,21,22,23,24,25,26,27,28]] [1,2,3,4,5,9,12,13])) (qS 29000 [qm 109 13,qB 110 .add 109 1,qm 13 110] [1,2,3,4,5,9,12,13])))
def s8:aP:=(.seq (.seq (qS 25000 [qm 103 12,qB 104 .lss 103 5] [1,2,3,4,5,9,12,104]) (.cond (.t 104) .skip (.exit 10))) (.seq (.block 11 (.seq (qS 27000 [qi 13 0] [1,2,3,4,5,9,12,13]) (.block 12 (.loop (qj (.close []) sC))))) (qS 26000 [qm 105 12,qB 106 .add 105 1,qm 12 106] [1,2,3,4,5,9,12])))
def tC:aP:=(.seq (.seq (qS 5000 [qm 16 5,qB 17 .lss 16 24] [1,2,3,4,5,17]) (.cond (.t 17) .skip (.exit 0))) (.seq (.block 1 (.seq (qS 7000 [qg 20 (.build (zar .u64 5) []),qg 6 (.alloc (zar .u64 5)),qu 5 6 20] [1,2,3,4,5,6]) (.seq (.seq (qS 8000 [qi 7 0] [1,2,3,4,5,6,7]) (.block 2 (.loop (qj (.close []) ue)))) (.seq (.seq (qS 12000 [qi 8 0] [1,2,3,4,5,6,8]) (.block 4 (.loop (qj (.close [15013]) sn)))) (.seq (qS 16000 [qg 71 (.build (zar .u64 25) []),qg 9 (.alloc (zar .u64 25)),qu 25 9 71] [1,2,3,4,5,9]) (.seq (.seq (qS 17000 [qi 10 0] [1,2,3,4,5,9,10]) (.block 6 (.loop (qj (.close [23021]) sd)))) (.seq (.seq (qS 24000 [qi 12 0] [1,2,3,4,5,9,12]) (.block 10 (.loop (qj (.close []) s8)))) (.drawn 31000 [qg 141 (.idxArr 25 1 (.t 1) (qI 0)),ql 142 141,qm 143 5,qX 144 24 1 3 143,ql 145 144,qb 146 .xor 142 145,qg 147 (.idxArr 25 1 (.t 1) (qI 0)),qu 1 147 146] [[],[0],[],[2],[3,2],[1,0,4,3,2],[0,1,2,3,4,5],[6,0,1,2,3,4,5]] [1,2,3,4,5])))))))) (qS 6000 [qm 18 5,qB 19 .add 18 1,qm 5 19] [1,2,3,4,5])))
def H4:aP:=(.seq (qS 1000 [qg 1 (.box 25 (.t 0)),qg 2 (.alloc (zar .u64 25))] [1,2]) (.seq (qS 2000 [qc 14 365 [],qg 3 (.alloc (zar .u64 24)),qu 24 3 14] [1,2,3]) (.seq (qS 3000 [qc 15 366 [],qg 4 (.alloc (zar .u64 25)),qu 25 4 15] [1,2,3,4]) (.seq (.seq (qS 4000 [qi 5 0] [1,2,3,4,5]) (.block 0 (.loop (qj (.close [7001,15013,16001,23021]) tC)))) (.seq (qS 32000 [qL 148 25 1,qu 25 2 148] [2]) .ret)))))
def sK:aJ:=⟨149,H4,[.cell 2 (.some 25)],.false,.false⟩
theorem PS:OkF 322 sK:=okq func322
def G7:=cv (a:=gT f323 [[1,2],[1,2,5],[1,2,5,6],[1,2,5,6,10],[1,2,5,6],[1,2,5,6],[4]] [(.close [6011,6012])])
def AH:aJ:=⟨28,mkC G7.1,[.tmp 4],.false,.false⟩
def J9:=cv (a:=lp G7.1 0)
def Jj:aP:=mkC J9.1
theorem Zb:OkF 323 AH:=okq func323
def Lp:=cv (a:=gT f324 [[0],[0,5],[2],[2]])
def xK:aJ:=⟨8,mkC Lp.1,[.tmp 2],.false,.false⟩
theorem WH:OkF 324 xK:=okq func324
def EX:=cv (a:=gT f325 [[0,2],[0,2,9],[0,2],[2],[0,2,3],[2,3],[2]] [] [(6,.close [5014])])
def qF:aJ:=⟨63,mkC EX.1,[.cell 2 (.some 2)],.false,.false⟩
theorem Nf:OkF 325 qF:=okq func325
def DD:=cv (a:=gT f326 [[0,3,4],[0,3,4,5],[0,3,4,5,11,12,13],[0,3,4,5,11,12,13,14],[0,3,4,5,6,7,11,12,13],[0,3,4,5,6,8,11,12,13],[0,3,4,5,6,8,11,12,13,20,21],[0,3,4,5,6,8,11,12,13,20,21,22],[0,3,4,5,6,8,9,11,12,13,20,21],[0,3,4,5,6,8,9,11,12,13,20,21,26],[0,3,4,5,6,8,11,12,13,20,21],[0,3,4,5,6,8,11,12,13,20,21],[0,3,4,5,11,12,13],[0,3,4,5,11,12,13],[4]] [(.close [5003,6001,11004,11005,11008,11009,11010,13002]),(.close [11004,11005,11008,11009,11010])])
def CY:aJ:=⟨44,mkC DD.1,[.cell 4 (.some 2)],.false,.false⟩
def Mb:=cv (a:=lp DD.1 0)
def M2:aP:=mkC Mb.1
def Lh:=cv (a:=lp DD.1 1)
def Lv:aP:=mkC Lh.1
theorem a2Q:OkF 326 CY:=okq func326
def Xy:=cv (a:=gT f327 [[0,1,2,3,4],[0,2,3,4,25],[10],[0,11],[10]])
def Hu:aJ:=⟨39,mkC Xy.1,[.tmp 10],.false,.false⟩
theorem a6w:OkF 327 Hu:=okq func327
def LY:=cv (a:=gT f328 [[0,1,7,8,9,10],[7,8,9,10,11,12],[10]])
def xu:aJ:=⟨35,mkC LY.1,[.cell 10 (.some 2)],.false,.false⟩
theorem Vs:OkF 328 xu:=okq func328
def RM:=cv (a:=gT f329 [[2,3,4],[4]])
def Dx:aJ:=⟨16,mkC RM.1,[.cell 4 (.some 2)],.false,.false⟩
theorem a3R:OkF 329 Dx:=okq func329
def FB:=cv (a:=gT f330 [[0],[2]])
def s9:aJ:=⟨5,mkC FB.1,[.tmp 2],.false,.false⟩
theorem Pw:OkF 330 s9:=okq func330
def Dd:=cv (a:=gT f331 [[0,1,2,3,4],[0,2,3,4,25],[10],[0,2,3,4,11],[0,2,3,4,11,29],[0,2,3,4,11,37],[10],[0,2,3,4,11],[0,13],[10]] [(.close [])])
def y0:aJ:=⟨48,mkC Dd.1,[.tmp 10],.false,.false⟩
def FU:=cv (a:=lp Dd.1 0)
def G1:aP:=mkC FU.1
theorem VD:OkF 331 y0:=okq func331
def gk:=cv (a:=gT f332 [[0,1],[0,1,7,8],[0,1,7,8,9],[0,1,5,7,8],[0,1,5,7,8,16],[4],[0,1,7,8],[4]] [(.close [5005])])
def ec:aJ:=⟨19,mkC gk.1,[.tmp 4],.false,.false⟩
def jl:=cv (a:=lp gk.1 0)
def jn:aP:=mkC jl.1
theorem rv:OkF 332 ec:=okq func332
def ea:=cv (a:=gT f333 [[0,1],[0,1,7,8],[0,1,7,8,9],[0,1,5,7,8],[0,1,5,7,8,16],[4],[0,1,7,8],[4]] [(.close [5005])])
def cM:aJ:=⟨19,mkC ea.1,[.tmp 4],.false,.false⟩
def fG:=cv (a:=lp ea.1 0)
def dN:aP:=mkC fG.1
theorem rz:OkF 333 cM:=okq func333
def fK:=cv (a:=gT f334 [[0,1],[0,1,7,8],[0,1,7,8,9],[0,1,5,7,8],[0,1,5,7,8,16],[4],[0,1,7,8],[4]] [(.close [5005])])
def dM:aJ:=⟨19,mkC fK.1,[.tmp 4],.false,.false⟩
def iL:=cv (a:=lp fK.1 0)
def iJ:aP:=mkC iL.1
theorem pw:OkF 334 dM:=okq func334
def jh:=cv (a:=gT f335 [[0,1],[0,1,7,8],[0,1,7,8,9],[0,1,5,7,8],[0,1,5,7,8,16],[4],[0,1,7,8],[4]] [(.close [5005])])
def gg:aJ:=⟨19,mkC jh.1,[.tmp 4],.false,.false⟩
def mf:=cv (a:=lp jh.1 0)
def mc:aP:=mkC mf.1
theorem wS:OkF 335 gg:=okq func335
def uP:=cv (a:=gT f336 [[1],[1,3],[3,4],[3,4,5],[3,4,5,28],[3,4,5],[3,4,5,6],[3,4,5,6,46],[3,4,5,6,7],[3,4,5,6],[3,4,5,6],[3,4,5],[2]] [(.close [7006,11007,12007,12011]),(.close [11007,12007,12011])])
def vg:aJ:=⟨73,mkC uP.1,[.tmp 2],.false,.false⟩
def EY:=cv (a:=lp uP.1 0)
def Ff:aP:=mkC EY.1
def Ey:=cv (a:=lp uP.1 1)
def EV:aP:=mkC Ey.1
theorem Rw:OkF 336 vg:=okq func336
def JS:=cv (a:=gT f337 [[1],[1,3],[3,4],[3,4,5],[3,4,5,21],[3,4,5],[2]] [(.close [])])
def D9:aJ:=⟨25,mkC JS.1,[.tmp 2],.false,.false⟩
def Lf:=cv (a:=lp JS.1 0)
def L9:aP:=mkC Lf.1
theorem a5f:OkF 337 D9:=okq func337
def FS:=cv (a:=gT f338 [[0,1,2],[0,1,2,11],[6],[0,1,2,7],[0,1,2,7,15],[0,1,2,7,8],[0,1,2,7,8,45],[6],[0,1,2,7,80],[6],[0,1,2,7],[6]] [(.close [7004,8006,8015,8021])])
def AP:aJ:=⟨81,mkC FS.1,[.tmp 6],.false,.false⟩
def JA:=cv (a:=lp FS.1 0)
def Ij:aP:=mkC JA.1
theorem a1B:OkF 338 AP:=okq func338
def NV:=cv (a:=gT f341 [[1,2],[1,2],[1,2,10],[4],[1],[1,16],[4],[4]])
def Ak:aJ:=⟨18,mkC NV.1,[.tmp 4],.false,.false⟩
theorem Zu:OkF 341 Ak:=okq func341
def O9:=cv (a:=gT f342 [[1,2],[1,2,3],[1,2,3],[2,3],[2]])
def A4:aJ:=⟨13,mkC O9.1,[.cell 2 (.some 2)],.false,.false⟩
theorem Yo:OkF 342 A4:=okq func342
def NZ:=cv (a:=gT f343 [[2,3],[2,3,10],[4],[16],[4],[4]])
def Ao:aJ:=⟨17,mkC NZ.1,[.tmp 4],.false,.false⟩
theorem a0t:OkF 343 Ao:=okq func343
def BF:aP:=(.seq (qS 4000 [qb 10 .lss 9 8] [2,3,7,8,9,10]) (.seq (.cond (.t 10) .skip (.exit 0)) (.seq (.block 1 (.seq (qS 5000 [qm 11 9,qx 12 1 7 9,ql 13 12,qm 4 11,qm 5 13] [2,3,4,5,7,8,9]) (.drawn 6000 [qm 14 4,qB 15 .quo 14 8,qX 16 25 1 3 15,ql 17 16,qm 18 5,qg 19 (.toInt .u64 (.t 18)),qm 20 4,qB 21 .rem 20 8,qD 22 .mul 8 21,qb 23 .shl 19 22,qb 24 .or 17 23,qX 25 25 1 3 15,qu 1 25 24] [[],[0],[1,0],[2,1,0],[],[4],[],[6],[7,6],[5,4,8,7,6],[3,2,1,0,9,5,4,8,7,6],[1,0,2,3,4,5,6,7,8,9,10],[11,1,0,2,3,4,5,6,7,8,9,10]] [2,3,7,8,9]))) (qS 7000 [qB 26 .add 9 1,qm 9 26] [2,3,7,8,9]))))
def O7:aP:=(.seq (qS 1000 [qg 2 (.alloc (zar .u64 25))] [0,2]) (.seq (qS 2000 [qg 6 (.build (zar .u64 25) []),qg 3 (.alloc (zar .u64 25)),qu 25 3 6] [0,2,3]) (.seq (.seq (qS 3000 [qm 7 0,qn 8 7,qi 9 0] [2,3,7,8,9]) (.block 0 (.loop (qj (.close []) BF)))) (.seq (qS 8000 [qL 27 25 3,qu 25 2 27] [2]) .ret))))
def As:aJ:=⟨28,O7,[.cell 2 (.some 25)],.false,.false⟩
theorem a03:OkF 344 As:=okq func344
def pK:aP:=(.seq (qS 8000 [qB 28 .lss 27 25] [0,2,5,6,7,20,21,26,27,28]) (.seq (.cond (.t 28) .skip (.exit 2)) (.seq (.block 3 (.seq (.drawn 9000 [qm 29 27,qk 30 26,qX 31 25 1 30 27,ql 32 31,qm 8 29,qm 9 32] [[],[],[1],[2,1],[0],[3,2,1,4,0]] [0,2,5,6,7,8,9,20,21,26,27]) (qS 10000 [qm 33 8,qB 34 .rem 33 5,qX 35 5 1 6 34,ql 36 35,qm 37 9,qb 38 .xor 36 37,qX 39 5 1 6 34,qu 1 39 38] [0,2,5,6,7,20,21,26,27]))) (qS 11000 [qB 40 .add 27 1,qm 27 40] [0,2,5,6,7,20,21,26,27]))))
def oF:aP:=(.seq (qS 13000 [qB 43 .lss 42 25] [0,2,5,6,7,20,21,41,42,43]) (.seq (.cond (.t 43) .skip (.exit 4)) (.seq (.block 5 (.seq (.drawn 14000 [qm 44 42,qk 45 41,qX 46 25 1 45 42,ql 47 46,qm 10 44,qm 11 47] [[],[],[1],[2,1],[0],[3,2,1,4,0]] [0,2,5,6,7,10,11,20,21,41,42]) (.seq (qS 15000 [qm 48 10,qB 49 .rem 48 5,qm 50 10,qB 51 .quo 50 5,qm 12 49,qm 13 51] [0,2,5,6,7,10,11,12,13,20,21,41,42]) (.seq (.drawn 16000 [qm 52 11,qm 53 12,qB 54 .add 53 4,qB 55 .rem 54 5,qX 56 5 1 6 55,ql 57 56,qm 58 12,qB 59 .add 58 1,qB 60 .rem 59 5,qX 61 5 1 6 60,ql 62 61,qg 63 (.call 376 [(.t 62),(qI 1)]),qb 64 .xor 57 63,qb 65 .xor 52 64,qm 11 65] [[],[],[1],[2,1],[3,2,1],[4,3,2,1],[],[6],[7,6],[8,7,6],[9,8,7,6],[10,9,8,7,6],[5,4,3,2,1,11,10,9,8,7,6],[0,12,5,4,3,2,1,11,10,9,8,7,6],[13,0,12,5,4,3,2,1,11,10,9,8,7,6]] [0,2,5,6,7,10,11,12,13,20,21,41,42]) (qS 17000 [qm 66 13,qm 67 12,qD 68 .mul 2 67,qm 69 13,qD 70 .mul 3 69,qb 71 .add 68 70,qB 72 .rem 71 5,qD 73 .mul 5 72,qb 74 .add 66 73,qm 75 11,qm 76 10,qX 77 25 1 2 76,ql 78 77,qc 79 376 [75,78],qX 80 25 1 7 74,qu 1 80 79] [0,2,5,6,7,20,21,41,42]))))) (qS 18000 [qB 81 .add 42 1,qm 42 81] [0,2,5,6,7,20,21,41,42]))))
def o4:aP:=(.seq (qS 20000 [qB 84 .lss 83 25] [0,2,5,7,20,21,82,83,84]) (.seq (.cond (.t 84) .skip (.exit 6)) (.seq (.block 7 (.seq (qS 21000 [qm 85 83,qg 86 (.ixAgg 25 1 .none (.t 82) (.t 83)),qm 14 85,qm 15 86] [0,2,5,7,14,15,20,21,82,83]) (.seq (qS 22000 [qm 87 14,qB 88 .rem 87 5,qm 89 14,qm 90 14,qB 91 .rem 90 5,qb 92 .sub 89 91,qm 16 88,qm 17 92] [0,2,5,7,14,15,16,17,20,21,82,83]) (.drawn 23000 [qm 93 0,qm 94 14,qm 95 15,qm 96 17,qm 97 16,qB 98 .add 97 2,qB 99 .rem 98 5,qb 100 .add 96 99,qX 101 25 1 7 100,ql 102 101,qm 103 17,qm 104 16,qB 105 .add 104 1,qB 106 .rem 105 5,qb 107 .add 103 106,qX 108 25 1 7 107,ql 109 108,qb 110 .andNot 102 109,qb 111 .xor 95 110,qk 112 93,qX 113 25 1 112 94,qu 1 113 111] [[],[],[],[],[],[4],[5,4],[3,6,5,4],[7,3,6,5,4],[8,7,3,6,5,4],[],[],[11],[12,11],[10,13,12,11],[14,10,13,12,11],[15,14,10,13,12,11],[9,8,7,3,6,5,4,16,15,14,10,13,12,11],[2,17,9,8,7,3,6,5,4,16,15,14,10,13,12,11],[0],[19,0,1,2,3,4,5,6,7,8,9,10,11,12,13,14,15,16,17,18],[20,19,0,1,2,3,4,5,6,7,8,9,10,11,12,13,14,15,16,17,18]] [0,2,5,7,20,21,82,83])))) (qS 24000 [qB 114 .add 83 1,qm 83 114] [0,2,5,7,20,21,82,83]))))
def pA:aP:=(.seq (qS 4000 [qB 22 .lss 21 24] [0,2,20,21,22]) (.seq (.cond (.t 22) .skip (.exit 0)) (.seq (.block 1 (.seq (qS 5000 [qg 23 (.ixAgg 24 1 .none (.t 20) (.t 21)),qm 5 23] [0,2,5,20,21]) (.seq (qS 6000 [qg 24 (.build (zar .u64 5) []),qg 25 (.build (zar .u64 25) []),qg 6 (.alloc (zar .u64 5)),qg 7 (.alloc (zar .u64 25)),qu 5 6 24,qu 25 7 25] [0,2,5,6,7,20,21]) (.seq (.seq (qS 7000 [qm 26 0,qi 27 0] [0,2,5,6,7,20,21,26,27]) (.block 2 (.loop (qj (.close []) pK)))) (.seq (.seq (qS 12000 [qm 41 0,qi 42 0] [0,2,5,6,7,20,21,41,42]) (.block 4 (.loop (qj (.close [16011,17013]) oF)))) (.seq (.seq (qS 19000 [qL 82 25 7,qi 83 0] [0,2,5,7,20,21,82,83]) (.block 6 (.loop (qj (.close []) o4)))) (.drawn 25000 [qm 115 0,qk 116 115,qg 117 (.idxArr 25 1 (.t 116) (qI 0)),ql 118 117,qm 119 5,qb 120 .xor 118 119,qk 121 115,qg 122 (.idxArr 25 1 (.t 121) (qI 0)),qu 1 122 120] [[],[0],[1,0],[2,1,0],[],[3,2,1,0,4],[0],[6,0,1,2,3,4,5],[7,6,0,1,2,3,4,5]] [0,2,20,21]))))))) (qS 26000 [qB 123 .add 21 1,qm 21 123] [0,2,20,21]))))
def zZ:aP:=(.seq (qS 1000 [qg 18 (.build (zar .i64 25) (Yj .i64 0 [0,1,62,28,27,36,44,6,55,20,3,10,43,25,39,41,45,15,21,8,18,2,61,56,14])),qg 2 (.alloc (zar .i64 25)),qu 25 2 18] [0,2]) (.seq (qS 2000 [qg 19 (.build (zar .u64 24) (Yj .u64 0 [1,32898,9223372036854808714,9223372039002292224,32907,2147483649,9223372039002292353,9223372036854808585,138,136,2147516425,2147483658,2147516555,9223372036854775947,9223372036854808713,9223372036854808579,9223372036854808578,9223372036854775936,32778,9223372039002259466,9223372039002292353,9223372036854808704,2147483649,9223372039002292232])),qg 3 (.alloc (zar .u64 24)),qu 24 3 19] [0,2,3]) (.seq (qS 3000 [qL 20 24 3,qi 21 0] [0,2,20,21]) (.block 0 (.loop (qj (.close [6002,6003,16011,17013]) pA))))))
def nS:aJ:=⟨124,zZ,[],.false,.false⟩
theorem JM:OkF 345 nS:=okq func345
def yU:=cv (a:=gT f346 [[0],[0,3],[0,3,6],[0,3,6,7],[0,3,4,6],[0,3,6],[0,3,6],[2]] [(.close [6012,6013])])
def sZ:aJ:=⟨25,mkC yU.1,[.tmp 2],.false,.false⟩
def Ct:=cv (a:=lp yU.1 0)
def Ce:aP:=mkC Ct.1
theorem Pi:OkF 346 sZ:=okq func346
def EN:=cv (a:=gT f348 [[0],[2],[2]])
def qC:aJ:=⟨8,mkC EN.1,[.tmp 2],.false,.false⟩
theorem MP:OkF 348 qC:=okq func348
def ms:=cv (a:=gT f349 [[0],[0,3],[3,6,7,8],[3,6,7,8,9],[3,5,6,7,8],[3,5,6,7,8,14],[2],[3,6,7,8],[2]] [(.close [])])
def j9:aJ:=⟨18,mkC ms.1,[.tmp 2],.false,.false⟩
def oc:=cv (a:=lp ms.1 0)
def ou:aP:=mkC oc.1
theorem Bq:OkF 349 j9:=okq func349
def kE:=cv (a:=gT f350 [[0,1],[0,1,5],[0,1,5,6],[0,1,6,11],[12],[4],[4],[0,1,13],[4],[0,1,16],[4],[19],[4],[4]])
def eo:aJ:=⟨20,mkC kE.1,[.tmp 4],.false,.false⟩
theorem rA:OkF 350 eo:=okq func350
def jU:=cv (a:=gT f351 [[1],[1,3],[3,22,23],[3,22,23,24],[3,5,22,23],[3,5,22,23],[3,22,23,30,31,32],[3,22,23,30,31,32,33],[3,7,22,23,30,31,32],[3,22,23,30,31,32],[3,22,23,30,31,32],[3,22,23],[2]] [(.close [6003,9002,10007,10008,10011]),(.close [9002,10007,10008,10011])])
def jT:aJ:=⟨51,mkC jU.1,[.tmp 2],.false,.false⟩
def BX:=cv (a:=lp jU.1 0)
def WX:aP:=mkC BX.1
def iN:=cv (a:=lp jU.1 1)
def ew:aP:=mkC iN.1
theorem DB:OkF 351 jT:=okq func351
def Ha:=cv (a:=gT f354 [[1,2,4],[4]])
def sV:aJ:=⟨14,mkC Ha.1,[.cell 4 (.some 2)],.false,.false⟩
theorem Ph:OkF 354 sV:=okq func354
def a1z:=cv (a:=gT f359 [[0,1],[0,1,5],[0,1,5,7],[0,1,5,12],[0,1,5],[0,1,5],[0,1,5],[4]] [(.close [6002,7002])])
def Q0:aJ:=⟨20,mkC a1z.1,[.tmp 4],.false,.false⟩
def WS:=cv (a:=lp a1z.1 0)
def WK:aP:=mkC WS.1
theorem b4D:OkF 359 Q0:=okq func359
def OR:=cv (a:=gT f361 [[0],[2]])
def AQ:aJ:=⟨8,mkC OR.1,[.tmp 2],.false,.false⟩
theorem Z9:OkF 361 AQ:=okq func361
def Gz:=cv (a:=gT f362 [[0],[0,3],[0,3,8],[0,3],[2]] [(.close [])])
def Ab:aJ:=⟨12,mkC Gz.1,[.tmp 2],.false,.false⟩
def IV:=cv (a:=lp Gz.1 0)
def IA:aP:=mkC IV.1
theorem a1f:OkF 362 Ab:=okq func362
def K0:=cv (a:=gT f364 [[0,1],[0,1,5],[0,1,5,7],[0,1,5,10],[0,1,5],[0,1,5],[0,1,5],[4]] [(.close [5002,6002])])
def DE:aJ:=⟨20,mkC K0.1,[.tmp 4],.false,.false⟩
def LH:=cv (a:=lp K0.1 0)
def Mm:aP:=mkC LH.1
theorem a3l:OkF 364 DE:=okq func364
def Jv:aP:=(.seq (qS 1000 [qg 0 (.alloc (zar .u64 24))] [0]) (.seq (qS 2000 [qg 1 (.build (zar .u64 24) (Yj .u64 0 [1,32898,9223372036854808714,9223372039002292224,32907,2147483649,9223372039002292353,9223372036854808585,138,136,2147516425,2147483658,2147516555,9223372036854775947,9223372036854808713,9223372036854808579,9223372036854808578,9223372036854775936,32778,9223372039002259466,9223372039002292353,9223372036854808704,2147483649,9223372039002292232])),qu 24 0 1] [0]) .ret))
def uW:aJ:=⟨2,Jv,[.cell 0 (.some 24)],.false,.false⟩
theorem Qp:OkF 365 uW:=okq func365
def J6:aP:=(.seq (qS 1000 [qg 0 (.alloc (zar .u64 25))] [0]) (.seq (qS 2000 [qg 1 (.build (zar .u64 25) (Yj .u64 0 [0,1,62,28,27,36,44,6,55,20,3,10,43,25,39,41,45,15,21,8,18,2,61,56,14])),qu 25 0 1] [0]) .ret))
def uS:aJ:=⟨2,J6,[.cell 0 (.some 25)],.false,.false⟩
theorem QI:OkF 366 uS:=okq func366
def OP:=cv (a:=gT f367 [[0,1],[0,1,6],[4],[4]])
def zN:aJ:=⟨16,mkC OP.1,[.tmp 4],.false,.false⟩
theorem Zz:OkF 367 zN:=okq func367
def Kb:=cv (a:=gT f368 [[0],[0,3],[3,6,7,8],[3,6,7,8,9],[3,5,6,7,8],[3,6,7,8],[3,6,7,8],[2]] [(.close [])])
def Ek:aJ:=⟨21,mkC Kb.1,[.tmp 2],.false,.false⟩
def LI:=cv (a:=lp Kb.1 0)
def Mx:aP:=mkC LI.1
theorem a4Q:OkF 368 Ek:=okq func368
def OK:=cv (a:=gT f369 [[0],[2]])
def zU:aJ:=⟨5,mkC OK.1,[.tmp 2],.false,.false⟩
theorem XZ:OkF 369 zU:=okq func369
def On:=cv (a:=gT f370 [[0],[2]])
def AM:aJ:=⟨6,mkC On.1,[.tmp 2],.false,.false⟩
theorem ZD:OkF 370 AM:=okq func370
def Nu:=cv (a:=gT f371 [[0,1,2],[0,2,7],[0,7,14,15,16],[0,7,14,15,16,17],[0,7,8,9,14,15,16],[0,7,8,9,10,14,15,16],[0,7,9,10,14,15,16,30],[0,7,9,10,14,15,16],[0,7,14,15,16],[0,7,14,15,16],[6]] [(.close [6004,9003,9004,9005])])
def HD:aJ:=⟨41,mkC Nu.1,[.tmp 6],.false,.false⟩
def OM:=cv (a:=lp Nu.1 0)
def NX:aP:=mkC OM.1
theorem a6y:OkF 371 HD:=okq func371
def Na:=cv (a:=gT f372 [[0,1,2],[0,1,2,8],[0,2,8,9],[0,2,8,9,10],[0,2,8,9,10,20],[0,2,8,9,10,11],[0,2,8,9,10,11,32],[0,2,8,10,11],[0,2,8,10,11],[0,2,8,9,10],[0,2,8,9,10],[0,2,8,9,10],[6,7]] [(.close [10002,10003,11001])])
def Hp:aJ:=⟨50,mkC Na.1,[.tmp 6,.tmp 7],.false,.false⟩
def OL:=cv (a:=lp Na.1 0)
def Od:aP:=mkC OL.1
theorem a78:OkF 372 Hp:=okq func372
def zw:=cv (a:=gT f373 [[0,1],[0,1],[0,1,11],[4],[0,1,5],[0,1,5,15],[0,1,5],[0,1,5,25],[4],[0,1,5],[4]] [(.close [8005])])
def sg:aJ:=⟨27,mkC zw.1,[.tmp 4],.false,.false⟩
def Cs:=cv (a:=lp zw.1 0)
def BP:aP:=mkC Cs.1
theorem P0:OkF 373 sg:=okq func373
def yC:=cv (a:=gT f374 [[0],[0,3],[0,3,4],[0,3,4,11],[0,3,4],[0,3,4],[2]] [(.close [6006])])
def si:aJ:=⟨23,mkC yC.1,[.tmp 2],.false,.false⟩
def BN:=cv (a:=lp yC.1 0)
def Cj:aP:=mkC BN.1
theorem Pd:OkF 374 si:=okq func374
def zD:=cv (a:=gT f375 [[0,1],[0,1,10],[4],[0,1,5],[0,1,5,14],[0,1,5,26],[4],[0,1,5],[4]] [(.close [7008])])
def sS:aJ:=⟨27,mkC zD.1,[.tmp 4],.false,.false⟩
def Cv:=cv (a:=lp zD.1 0)
def BJ:aP:=mkC Cv.1
theorem P3:OkF 375 sS:=okq func375
def qh:=cv (a:=gT f376 [[0,1],[0,5],[4]])
def iu:aJ:=⟨17,mkC qh.1,[.tmp 4],.false,.false⟩
theorem zK:OkF 376 iu:=okq func376
def AF:=cv (a:=gT f386 [[0,2],[0,2,4],[0],[0,2],[0,2,8],[0,2],[0,2],[0,2,14],[0,2],[0,2],[2]])
def nM:aJ:=⟨25,mkC AF.1,[.tmp 2],.false,.false⟩
theorem JX:OkF 386 nM:=okq func386
end Go.AI.Fn
