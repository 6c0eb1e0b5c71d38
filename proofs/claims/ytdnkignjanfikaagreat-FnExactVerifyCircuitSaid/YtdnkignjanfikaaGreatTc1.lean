/- Part. -/
import Derived.Test.YtdnkignjanfikaaGreatTb0
set_option linter.unusedVariables false
set_option maxRecDepth 100000
set_option maxHeartbeats 2000000
namespace Go.AI.Fn
open Proofs.Tryz
def zA:=cv (a:=gT f231 [[0,3,4],[0,3,4,5],[0,3,4,5,6],[0,3,4,5,6,14],[0,3,4,5,6,7],[0,3,4,5,6,7,8],[0,3,4,5,6,7,8,9],[0,3,4,5,6,7,8,9,24],[0,3,4,5,6,7,8,9,29],[0,3,4,5,6,7,8,9],[0,3,4,5,6,7,8,9],[0,3,4,5,6,7,8,9],[0,3,4,5,6],[0,3,4,5,6],[4]] [(.close [6004,12003,12004,12005,13003,13004,14003,14004,14005,14006]),(.close [12003,12004,12005,13003,13004])])
def Ac:aJ:=⟨49,mkC zA.1,[.cell 4 (.some 2)],.false,.false⟩
def HE:=cv (a:=lp zA.1 0)
def HC:aQ:=mkC HE.1
def Ig:=cv (a:=lp zA.1 1)
def J9:aQ:=mkC Ig.1
theorem Yv:OkF 231 Ac:=okq func231
def Qu:=cv (a:=gT f232 [[2,3,4],[4]])
def D0:aJ:=⟨30,mkC Qu.1,[.cell 4 (.some 2)],.false,.false⟩
theorem a1d:OkF 232 D0:=okq func232
def FX:=cv (a:=gT f233 [[0,1,4],[0,1,4,5],[0,1,4,5,6],[0,1,4,5,6,11],[0,1,4,5,6],[0,1,4,5,6],[4]] [(.close [6009,6014,6019,6020,6021,6022])])
def zt:aJ:=⟨38,mkC FX.1,[.cell 4 (.some 2)],.false,.false⟩
def HQ:=cv (a:=lp FX.1 0)
def IJ:aQ:=mkC HQ.1
theorem YJ:OkF 233 zt:=okq func233
def NL:=cv (a:=gT f234 [[1,2,3],[1,7],[1,8],[6]])
def zT:aJ:=⟨31,mkC NL.1,[.tmp 6],.false,.false⟩
theorem WB:OkF 234 zT:=okq func234
def Du:=cv (a:=gT f235 [[0,1,2,3,4,12,13],[0,1,2,3,4,12,13,15],[0,1,2,3,4,12,13,15,16],[0,1,2,3,4,12,13,15,16,24],[0,1,2,3,4,12,13,15,16,17],[0,1,2,3,4,12,13,15,16,17,18],[0,1,2,3,4,12,13,15,16,17,18],[0,1,2,3,4,12,13,15,16,17,18,19],[0,1,2,3,4,12,13,15,16,17,18,19,20],[0,1,2,3,4,12,13,15,16,17,18,19,20,65],[14],[0,1,2,3,4,12,13,15,16,17,19,20,84],[14],[0,1,3,4,12,13,15,16,17],[0,1,2,3,4,12,13,15,16],[0,1,2,3,4,12,13,15,16],[98],[14],[14]] [(.close [9006,10007,11008,11009,11016,15008])])
def xD:aJ:=⟨99,mkC Du.1,[.tmp 14],.false,.false⟩
def Ft:=cv (a:=lp Du.1 0)
def Gc:aQ:=mkC Ft.1
theorem U3:OkF 235 xD:=okq func235
def iT:=cv (a:=gT f236 [[0,1],[4]])
def dF:aJ:=⟨9,mkC iT.1,[.tmp 4],.false,.false⟩
theorem oj:OkF 236 dF:=okq func236
def Er:=cv (a:=gT f237 [[0,1],[3]])
def pR:aJ:=⟨13,mkC Er.1,[.tmp 3],.false,.false⟩
theorem M4:OkF 237 pR:=okq func237
def fq:=cv (a:=gT f238 [[0,1],[4]])
def cx:aJ:=⟨9,mkC fq.1,[.tmp 4],.false,.false⟩
theorem oS:OkF 238 cx:=okq func238
def Ce:=cv (a:=gT f239 [[0,1],[3]])
def oT:aJ:=⟨8,mkC Ce.1,[.tmp 3],.false,.false⟩
theorem KZ:OkF 239 oT:=okq func239
def ir:=cv (a:=gT f240 [[0,1],[4]])
def dp:aJ:=⟨9,mkC ir.1,[.tmp 4],.false,.false⟩
theorem ny:OkF 240 dp:=okq func240
def zX:=cv (a:=gT f241 [[1,2],[3]])
def nk:aJ:=⟨8,mkC zX.1,[.tmp 3],.false,.false⟩
theorem JH:OkF 241 nk:=okq func241
def AH:=cv (a:=gT f242 [[0],[0,3],[0,3,7],[0,3,15],[2],[0,3],[2]] [(.close [5004])])
def tZ:aJ:=⟨16,mkC AH.1,[.tmp 2],.false,.false⟩
def Ee:=cv (a:=lp AH.1 0)
def EM:aQ:=mkC Ee.1
theorem QE:OkF 242 tZ:=okq func242
def SD:=cv (a:=gT f243 [[0,1],[4]])
def DG:aJ:=⟨9,mkC SD.1,[.tmp 4],.false,.false⟩
theorem a29:OkF 243 DG:=okq func243
def Ql:=cv (a:=gT f244 [[0,1],[4]])
def DI:aJ:=⟨10,mkC Ql.1,[.tmp 4],.false,.false⟩
theorem a2W:OkF 244 DI:=okq func244
def Ru:=cv (a:=gT f245 [[0,1],[4]])
def Dr:aJ:=⟨9,mkC Ru.1,[.tmp 4],.false,.false⟩
theorem a1T:OkF 245 Dr:=okq func245
def l0:=cv (a:=gT f247 [[0,1],[4]])
def fa:aJ:=⟨9,mkC l0.1,[.tmp 4],.false,.false⟩
theorem sH:OkF 247 fa:=okq func247
def Ic:=cv (a:=gT f248 [[0,1],[3]])
def uj:aJ:=⟨8,mkC Ic.1,[.tmp 3],.false,.false⟩
theorem RO:OkF 248 uj:=okq func248
def CJ:=cv (a:=gT f250 [[2,4,5,7,8],[2,7,8,9],[2,7,8,9,10],[2,7,8,9,10,28],[2,7,8,9,10],[2,7,8,9,10],[8]] [(.close [6005])])
def xf:aJ:=⟨42,mkC CJ.1,[.cell 8 (.some 4)],.false,.false⟩
def F8:=cv (a:=lp CJ.1 0)
def FS:aQ:=mkC F8.1
theorem Uv:OkF 250 xf:=okq func250
def Gm:=cv (a:=gT f251 [[0,1],[0,5],[0,5,6],[0,5,6,12],[0,5,6],[0,5,6],[4]] [(.close [6006])])
def zx:aJ:=⟨24,mkC Gm.1,[.tmp 4],.false,.false⟩
def J4:=cv (a:=lp Gm.1 0)
def J1:aQ:=mkC J4.1
theorem Yg:OkF 251 zx:=okq func251
def ud:=cv (a:=gT f252 [[1,2,3],[1,2,7],[1,2,7,8],[1,2,7,8],[1,2,7,8,9],[1,2,7,8,9,24],[1,2,7,8,9],[1,2,7,8,9],[2,7,8,10],[2,7,8,10,38],[2,7,8,10],[2,7,8,10],[6]] [(.close []),(.close [])])
def uC:aJ:=⟨51,mkC ud.1,[.tmp 6],.false,.false⟩
def Eu:=cv (a:=lp ud.1 0)
def EJ:aQ:=mkC Eu.1
def ED:=cv (a:=lp ud.1 1)
def E3:aQ:=mkC ED.1
theorem Sb:OkF 252 uC:=okq func252
def Gf:=cv (a:=gT f253 [[1,2,4],[1,2,4,6],[1,2,4,6,7],[1,2,4,6,7,13],[1,2,4,6,7,8,9],[1,2,4,6,7,9],[1,2,4,6,7],[1,2,4,6,7],[4,5]] [(.close [6001,6005,6006,8002,8003])])
def zQ:aJ:=⟨28,mkC Gf.1,[.cell 4 (.some 4),.tmp 5],.false,.false⟩
def Iq:=cv (a:=lp Gf.1 0)
def HD:aQ:=mkC Iq.1
theorem Xg:OkF 253 zQ:=okq func253
def xp:=cv (a:=gT f256 [[1,2,3],[1,2,3,7],[2,3,7,8],[2,7,8,9],[2,7,8,9,10],[2,7,8,9,10,28],[2,7,8,9,10,11],[2,7,8,9,10,11,37],[2,7,8,9,10,11,12],[2,7,8,9,10,11],[2,7,8,9,10,11],[2,7,8,9,10],[6]] [(.close [11007,12014,12020,12021,12022]),(.close [11007,12014,12020,12021,12022])])
def wT:aJ:=⟨72,mkC xp.1,[.tmp 6],.false,.false⟩
def GL:=cv (a:=lp xp.1 0)
def F7:aQ:=mkC GL.1
def FZ:=cv (a:=lp xp.1 1)
def Gq:aQ:=mkC FZ.1
theorem U7:OkF 256 wT:=okq func256
def MA:=cv (a:=gT f257 [[0,1,4],[0,4,5],[0,4,5,6],[0,4,5,6,7],[0,4,5,6,7,14],[0,4,5,6,7],[0,4,5,6,7],[4]] [(.close [7009,7010])])
def Hg:aJ:=⟨29,mkC MA.1,[.cell 4 (.some 2)],.false,.false⟩
def NK:=cv (a:=lp MA.1 0)
def Ny:aQ:=mkC NK.1
theorem a6h:OkF 257 Hg:=okq func257
def Fh:=cv (a:=gT f258 [[1],[1,4],[1,4,5],[1,4,5,6],[1,4,5,6,7],[1,4,5,6,7,8],[1,4,5,6,7,8,9],[1,4,5,6,7,8,9,21],[1,4,5,6,7,8,9,30],[1,4,5,6,7,8,9],[1,4,5,6,7,8,9],[1,4,5,6,7,8,9],[1,4,5,6,7,8,9],[1,4,5,6,7,8,9],[2,3]] [(.close [12002,12003,13004,13005])])
def zS:aJ:=⟨47,mkC Fh.1,[.tmp 2,.tmp 3],.false,.false⟩
def II:=cv (a:=lp Fh.1 0)
def HY:aQ:=mkC II.1
theorem WY:OkF 258 zS:=okq func258
def CH:=cv (a:=gT f259 [[0,1,2,3],[0,1,2,3,9],[0,1,2,3,9,35],[0,1,2,3,9],[0,1,2,3,9,59],[0,1,2,9,10],[0,1,2,9,10,11],[0,1,2,9,10,11,75],[0,9,11],[8],[8]] [(.close [])])
def xt:aJ:=⟨103,mkC CH.1,[.tmp 8],.false,.false⟩
def GG:=cv (a:=lp CH.1 0)
def GJ:aQ:=mkC GG.1
theorem TG:OkF 259 xt:=okq func259
def N8:=cv (a:=gT f260 [[1,2],[1,2,9],[4],[1,2,5],[2,52],[4],[2,55],[4],[4]])
def zs:aJ:=⟨62,mkC N8.1,[.tmp 4],.false,.false⟩
theorem ZB:OkF 260 zs:=okq func260
def Ly:=cv (a:=gT f261 [[1],[2]])
def xG:aJ:=⟨49,mkC Ly.1,[.tmp 2],.false,.false⟩
theorem Ul:OkF 261 xG:=okq func261
def DQ:=cv (a:=gT f262 [[0],[0,3],[0,3,4],[0,3,4,9],[0,3,4],[0,3,4],[2]] [(.close [6006,6007,6013,6014])])
def xb:aJ:=⟨28,mkC DQ.1,[.tmp 2],.false,.false⟩
def Gv:=cv (a:=lp DQ.1 0)
def Gz:aQ:=mkC Gv.1
theorem UV:OkF 262 xb:=okq func262
def AA:=cv (a:=gT f268 [[0,2,3,6,9,11,12],[0,2,3,6,9,11,12,22],[10,11,12,13],[0,2,3,6,9,11,12,14],[0,2,3,6,9,11,12,14,15],[0,2,3,6,9,11,12,14,15,29],[0,2,3,6,9,11,12,14,15,16],[0,2,3,6,9,11,12,14,15,16,41],[10,11,12,13],[0,2,3,6,9,11,12,14,15,16,53],[10,11,12,13],[0,2,3,6,9,11,12,14,15,16],[0,2,3,6,9,11,12,14,15,16,17,18],[0,2,3,6,9,11,12,14,15,16,18],[0,2,3,6,9,11,12,14,15,18],[0,2,3,6,9,11,12,14,15],[0,2,3,6,9,11,12,14,15],[10,11,12,13]] [(.close [9003,10000,11006,12000,13002,14001,14005,14006,16002,17002,17003])])
def ux:aJ:=⟨76,mkC AA.1,[.tmp 10,.cell 11 (.some 2),.cell 12 (.some 4),.tmp 13],.false,.false⟩
def EC:=cv (a:=lp AA.1 0)
def Eh:aQ:=mkC EC.1
theorem PS:OkF 268 ux:=okq func268
def F5:=cv (a:=gT f269 [[0,1,4],[1,4,6],[4],[4]])
def sx:aJ:=⟨29,mkC F5.1,[.cell 4 (.some 2)],.false,.false⟩
theorem OB:OkF 269 sx:=okq func269
def N6:=cv (a:=gT f270 [[1,2],[2]])
def A0:aJ:=⟨6,mkC N6.1,[.cell 2 (.some 2)],.false,.false⟩
theorem Yo:OkF 270 A0:=okq func270
def IC:=cv (a:=gT f271 [[1,2,3,6],[6]])
def uy:aJ:=⟨25,mkC IC.1,[.cell 6 (.some 2)],.false,.false⟩
theorem QY:OkF 271 uy:=okq func271
def AE:=cv (a:=gT f272 [[0,1],[0,1],[0,1,11],[4],[0,1,5],[0,1,5,15],[0,1,5],[0,1,5,26],[4],[0,1,5],[4]] [(.close [])])
def uu:aJ:=⟨28,mkC AE.1,[.tmp 4],.false,.false⟩
def Ey:=cv (a:=lp AE.1 0)
def Ev:aQ:=mkC Ey.1
theorem RA:OkF 272 uu:=okq func272
def Dz:=cv (a:=gT f273 [[0,1],[0,1],[0,1,11],[4],[0,1,5],[0,1,5,15],[0,1,5],[0,1,5,25],[4],[0,1,5],[4]] [(.close [8005])])
def xl:aJ:=⟨27,mkC Dz.1,[.tmp 4],.false,.false⟩
def Fo:=cv (a:=lp Dz.1 0)
def FF:aQ:=mkC Fo.1
theorem UI:OkF 273 xl:=okq func273
def SK:=cv (a:=gT f274 [[1,2],[1,2,3],[1,2,3],[1,2,3],[1,2,3],[2,3],[2]])
def Cp:aJ:=⟨17,mkC SK.1,[.cell 2 (.some 4)],.false,.false⟩
theorem a3D:OkF 274 Cp:=okq func274
def B5:=cv (a:=gT f275 [[0],[0,3],[0,3,4],[0,3,4,11],[0,3,4],[0,3,4],[2]] [(.close [])])
def uz:aJ:=⟨22,mkC B5.1,[.tmp 2],.false,.false⟩
def E5:=cv (a:=lp B5.1 0)
def DZ:aQ:=mkC E5.1
theorem Rb:OkF 275 uz:=okq func275
def Dq:=cv (a:=gT f276 [[0],[0,3],[0,3,4],[0,3,4,11],[0,3,4],[0,3,4],[2]] [(.close [6006])])
def wX:aJ:=⟨23,mkC Dq.1,[.tmp 2],.false,.false⟩
def FQ:=cv (a:=lp Dq.1 0)
def Ge:aQ:=mkC FQ.1
theorem TE:OkF 276 wX:=okq func276
def PD:=cv (a:=gT f277 [[2,3],[2,3,9],[4],[2,3,14],[4],[2,3,19],[4],[24],[4],[4]])
def Dc:aJ:=⟨25,mkC PD.1,[.tmp 4],.false,.false⟩
theorem a1v:OkF 277 Dc:=okq func277
def AL:=cv (a:=gT f278 [[0,1],[0,1,10],[4],[0,1,5],[0,1,5,14],[0,1,5,25],[4],[0,1,5],[4]] [(.close [])])
def uK:aJ:=⟨26,mkC AL.1,[.tmp 4],.false,.false⟩
def EB:=cv (a:=lp AL.1 0)
def E6:aQ:=mkC EB.1
theorem Ra:OkF 278 uK:=okq func278
def DM:=cv (a:=gT f279 [[0,1],[0,1,10],[4],[0,1,5],[0,1,5,14],[0,1,5,26],[4],[0,1,5],[4]] [(.close [7008])])
def wI:aJ:=⟨27,mkC DM.1,[.tmp 4],.false,.false⟩
def G8:=cv (a:=lp DM.1 0)
def FC:aQ:=mkC G8.1
theorem Uh:OkF 279 wI:=okq func279
def gY:=cv (a:=gT f283 [[0,1],[0,1,7,8],[0,1,7,8,9],[0,1,5,7,8],[0,1,5,7,8,16],[4],[0,1,7,8],[4]] [(.close [5005])])
def ey:aJ:=⟨19,mkC gY.1,[.tmp 4],.false,.false⟩
def jR:=cv (a:=lp gY.1 0)
def jS:aQ:=mkC jR.1
theorem sA:OkF 283 ey:=okq func283
def Di:aQ:=(.seq (qS 4000 [qb 13 .lss 12 11] [3,10,11,12,13]) (.seq (.cond (.t 13) .skip (.exit 0)) (.seq (.block 1 (.seq (qS 5000 [qx 14 1 10 12,ql 15 14,qm 5 15] [3,5,10,11,12]) (qS 6000 [qm 16 3,qm 17 5,qg 18 (.append 1 1 [(.int .u8 0)] (.t 16) (.t 17)),qm 3 18] [3,10,11,12]))) (qS 7000 [qB 19 .add 12 1,qm 12 19] [3,10,11,12]))))
def CO:aQ:=(.seq (.seq (qS 9000 [qm 23 3,qn 24 23,qB 25 .rem 24 136,qB 26 .neq 25 0] [3,26]) (.cond (.t 26) .skip (.exit 2))) (.block 3 (qS 10000 [qm 27 3,qg 28 (.buildSlice 1 [(.int .u8 0)] 1 [(0,(.c (.int .u8 0)))]),qg 29 (.append 1 1 [(.int .u8 0)] (.t 27) (.t 28)),qm 3 29] [3])))
def B1:aQ:=(.seq (qS 16000 [qB 48 .lss 47 25] [3,6,46,47,48]) (.seq (.cond (.t 48) .skip (.exit 6)) (.seq (.block 7 (.seq (qS 17000 [qm 49 47,qg 50 (.ixAgg 25 1 .none (.t 46) (.t 47)),qm 7 49,qm 8 50] [3,6,7,8,46,47]) (qS 18000 [qm 51 7,qX 52 25 1 6 51,ql 53 52,qm 54 8,qb 55 .xor 53 54,qX 56 25 1 6 51,qu 1 56 55] [3,6,46,47]))) (qS 19000 [qB 57 .add 47 1,qm 47 57] [3,6,46,47]))))
def Ay:aQ:=(.seq (.seq (qS 13000 [qm 39 3,qn 40 39,qB 41 .gtr 40 0] [3,6,41]) (.cond (.t 41) .skip (.exit 4))) (.seq (.block 5 (.seq (.seq (qS 15000 [qm 44 3,qg 45 (.slice 1 (.t 44) .none (.some (qI 136)) .none),qc 46 344 [45],qi 47 0] [3,6,46,47]) (.block 6 (.loop (pM (.close []) B1)))) (qS 20000 [qc 58 345 [6]] [3,6]))) (qS 14000 [qm 42 3,qg 43 (.slice 1 (.t 42) (.some (qI 136)) .none .none),qm 3 43] [3,6])))
def Sr:aQ:=(.seq (qS 1000 [qg 2 (.mv (.c (.string ⟨⟨[]⟩⟩)))] [0]) (.seq (qS 2000 [qg 9 (.buildSlice 1 [(.int .u8 0)] 0 []),qm 3 9] [0,3]) (.seq (.seq (qS 3000 [qm 10 0,qn 11 10,qi 12 0] [3,10,11,12]) (.block 0 (.loop (pM (.close [6002]) Di)))) (.seq (qS 8000 [qm 20 3,qg 21 (.buildSlice 1 [(.int .u8 0)] 1 [(0,(.c (.int .u8 1)))]),qg 22 (.append 1 1 [(.int .u8 0)] (.t 20) (.t 21)),qm 3 22] [3]) (.seq (.block 2 (.loop (pM (.close [10001,10002]) CO))) (.seq (qS 11000 [qm 30 3,qm 31 3,qn 32 31,qB 33 .sub 32 1,qx 34 1 30 33,ql 35 34,qg 36 (.bin .or (.t 35) (.c (.int .u8 128))),qx 37 1 30 33,qu 1 37 36] [3]) (.seq (qS 12000 [qg 38 (.build (zar .u64 25) []),qg 6 (.alloc (zar .u64 25)),qu 25 6 38] [3,6]) (.seq (.block 4 (.loop (pM (.close [15002,20000,2000]) Ay))) (.seq (qS 21000 [qc 59 346 [6],qg 60 (.slice 1 (.t 59) .none (.some (qI 32)) .none),qg 61 (.toStr (.t 60)),qm 2 61] [2]) .ret)))))))))
def Cz:aJ:=⟨62,Sr,[.tmp 2],.false,.false⟩
theorem a0n:OkF 284 Cz:=okq func284
def Bz:=cv (a:=gT f285 [[0,1,2],[5]])
def ov:aJ:=⟨13,mkC Bz.1,[.tmp 5],.true,.false⟩
theorem Ke:OkF 285 ov:=okq func285
def Bd:=cv (a:=gT f286 [[0,2,3,11,12,13],[0,2,3,11,12,13,14],[0,2,3,9,11,12,13],[0,2,3,9,10,11,12,13],[0,2,3,11,12,13],[0,2,3,11,12,13],[0],[]] [(.close [3002,4007,5013])])
def uN:aJ:=⟨70,mkC Bd.1,[],.false,.false⟩
def EI:=cv (a:=lp Bd.1 0)
def Ew:aQ:=mkC EI.1
theorem Py:OkF 286 uN:=okq func286
def mG:=cv (a:=gT f288 [[2,3],[4]])
def fK:aJ:=⟨17,mkC mG.1,[.tmp 4],.false,.false⟩
theorem tO:OkF 288 fK:=okq func288
def RY:=cv (a:=gT f289 [[0],[0,3],[3,7,8,9],[3,7,8,9,10],[3,5,7,8,9],[3,7,8,9],[3,7,8,9],[2]] [(.close [6003,6004])])
def Kr:aJ:=⟨20,mkC RY.1,[.tmp 2],.false,.false⟩
def RS:=cv (a:=lp RY.1 0)
def Sj:aQ:=mkC RS.1
theorem a81:OkF 289 Kr:=okq func289
def B9:=cv (a:=gT f290 [[2,3,4],[2,7],[7,26,27,28],[7,26,27,28,29],[7,9,26,27,28],[7,26,27,28],[7,26,27,28],[6]] [(.close [6002])])
def uv:aJ:=⟨37,mkC B9.1,[.tmp 6],.false,.false⟩
def DT:=cv (a:=lp B9.1 0)
def E0:aQ:=mkC DT.1
theorem PY:OkF 290 uv:=okq func290
def su:=cv (a:=gT f293 [[1,3,5],[3,5,7,8],[5,7,8,20,21],[5,7,8,20,21,22],[5,7,8,9,10,20,21],[5,7,8,9,20,21,25,26,27],[5,7,8,9,20,21,25,26,27,28],[5,7,8,9,12,20,21,25,26,27],[5,7,8,9,20,21,25,26,27],[5,7,8,9,20,21,25,26,27],[5,7,8,20,21],[6]] [(.close [8002,9016,9019,9020]),(.close [8002,9016,9019,9020])])
def sc:aJ:=⟨56,mkC su.1,[.tmp 6],.false,.false⟩
def MB:=cv (a:=lp su.1 0)
def b0w:aQ:=mkC MB.1
def oB:=cv (a:=lp su.1 1)
def js:aQ:=mkC oB.1
theorem OF:OkF 293 sc:=okq func293
def Jd:=cv (a:=gT f297 [[0],[0,3],[3,6,7,8],[3,6,7,8,9],[3,5,6,7,8],[3,6,7,8],[3,6,7,8],[2]] [(.close [])])
def Dh:aJ:=⟨19,mkC Jd.1,[.tmp 2],.false,.false⟩
def Kx:=cv (a:=lp Jd.1 0)
def K2:aQ:=mkC Kx.1
theorem a0M:OkF 297 Dh:=okq func297
def Ng:=cv (a:=gT f298 [])
def zR:aJ:=⟨2,mkC Ng.1,[],.false,.false⟩
theorem Y3:OkF 298 zR:=okq func298
def O1:=cv (a:=gT f299 [[0,1,4],[1,4,6],[4],[4]])
def zO:aJ:=⟨29,mkC O1.1,[.cell 4 (.some 2)],.false,.false⟩
theorem XV:OkF 299 zO:=okq func299
def Nc:=cv (a:=gT f300 [[3,4,5,6],[6]])
def zU:aJ:=⟨14,mkC Nc.1,[.cell 6 (.some 2)],.false,.false⟩
theorem Xo:OkF 300 zU:=okq func300
def LQ:=cv (a:=gT f301 [[1,2,3,6],[6]])
def wR:aJ:=⟨17,mkC LQ.1,[.cell 6 (.some 2)],.false,.false⟩
theorem U6:OkF 301 wR:=okq func301
def Qn:=cv (a:=gT f303 [[0],[3],[2],[2]])
def CU:aJ:=⟨4,mkC Qn.1,[.tmp 2],.false,.false⟩
theorem a32:OkF 303 CU:=okq func303
def CI:=cv (a:=gT f304 [[0],[0,3],[0,3,4],[0,3,4,6],[0,3,4],[0,3,4],[2]] [(.close [])])
def wN:aJ:=⟨18,mkC CI.1,[.tmp 2],.false,.false⟩
def Gw:=cv (a:=lp CI.1 0)
def Gy:aQ:=mkC Gw.1
theorem UM:OkF 304 wN:=okq func304
def Lw:=cv (a:=gT f305 [[0],[2]])
def xu:aJ:=⟨5,mkC Lw.1,[.tmp 2],.false,.false⟩
theorem TR:OkF 305 xu:=okq func305
def LS:=cv (a:=gT f306 [[0,1],[4]])
def wL:aJ:=⟨9,mkC LS.1,[.tmp 4],.false,.false⟩
theorem Ue:OkF 306 wL:=okq func306
def a1y:=cv (a:=gT f308 [[0],[2]])
def Kl:aJ:=⟨7,mkC a1y.1,[.tmp 2],.false,.false⟩
theorem a9P:OkF 308 Kl:=okq func308
def Wc:=cv (a:=gT f309 [[0],[2]])
def Hc:aJ:=⟨7,mkC Wc.1,[.tmp 2],.false,.false⟩
theorem a5f:OkF 309 Hc:=okq func309
def RB:=cv (a:=gT f310 [[0],[0]])
def DC:aJ:=⟨2,mkC RB.1,[.cell 0 (.some 2)],.false,.false⟩
theorem a01:OkF 310 DC:=okq func310
def J8:=cv (a:=gT f313 [[0],[2]])
def uB:aJ:=⟨5,mkC J8.1,[.tmp 2],.false,.false⟩
theorem R1:OkF 313 uB:=okq func313
def Wn:=cv (a:=gT f315 [[0,2],[2]])
def Hn:aJ:=⟨5,mkC Wn.1,[.cell 2 (.some 2)],.false,.false⟩
theorem a4P:OkF 315 Hn:=okq func315
def Nu:=cv (a:=gT f317 [[0,1,7,8,9,10],[7,8,9,10,11],[7,8,9,10,11,12],[7,8,9,10,11,12,13],[9,10,13,14],[10]])
def zV:aJ:=⟨41,mkC Nu.1,[.cell 10 (.some 2)],.false,.false⟩
theorem Yy:OkF 317 zV:=okq func317
def O9:=cv (a:=gT f318 [[0],[2]])
def zF:aJ:=⟨6,mkC O9.1,[.tmp 2],.false,.false⟩
theorem ZJ:OkF 318 zF:=okq func318
def z7:aQ:=(.seq (.seq (qS 4000 [qm 6 4,qm 7 0,qg 8 (.len .true (.t 7)),qb 9 .lss 6 8] [0,2,3,4,9]) (.cond (.t 9) .skip (.exit 0))) (.seq (.block 1 (.drawn 6000 [qm 12 4,qB 13 .quo 12 8,qX 14 25 1 3 13,ql 15 14,qm 16 0,qm 17 4,qg 18 (.ixStr (.t 16) (.t 17)),qg 19 (.toInt .u64 (.t 18)),qm 20 4,qB 21 .rem 20 8,qD 22 .mul 8 21,qg 23 (.toInt .u64 (.t 22)),qb 24 .shl 19 23,qb 25 .or 15 24,qX 26 25 1 3 13,qu 1 26 25] [[],[0],[1,0],[2,1,0],[],[],[4,5],[6,4,5],[],[8],[9,8],[10,9,8],[7,6,4,5,11,10,9,8],[3,2,1,0,12,7,6,4,5,11,10,9,8],[1,0,2,3,4,5,6,7,8,9,10,11,12,13],[14,1,0,2,3,4,5,6,7,8,9,10,11,12,13]] [0,2,3,4])) (qS 5000 [qm 10 4,qB 11 .add 10 1,qm 4 11] [0,2,3,4])))
def Lx:aQ:=(.seq (qS 1000 [qg 2 (.alloc (zar .u64 25))] [0,2]) (.seq (qS 2000 [qg 5 (.build (zar .u64 25) []),qg 3 (.alloc (zar .u64 25)),qu 25 3 5] [0,2,3]) (.seq (.seq (qS 3000 [qi 4 0] [0,2,3,4]) (.block 0 (.loop (pM (.close []) z7)))) (.seq (qS 7000 [qL 27 25 3,qu 25 2 27] [2]) .ret))))
def wK:aJ:=⟨28,Lx,[.cell 2 (.some 25)],.false,.false⟩
theorem TL:OkF 321 wK:=okq func321
def ta:aQ:=(.seq (.seq (qS 9000 [qm 21 7,qB 22 .lss 21 5] [1,2,3,4,5,6,7,22]) (.cond (.t 22) .skip (.exit 2))) (.seq (.block 3 (.drawn 11000 [qm 25 7,qm 26 7,qX 27 25 1 1 26,ql 28 27,qm 29 7,qB 30 .add 29 5,qX 31 25 1 1 30,ql 32 31,qb 33 .xor 28 32,qm 34 7,qB 35 .add 34 10,qX 36 25 1 1 35,ql 37 36,qb 38 .xor 33 37,qm 39 7,qB 40 .add 39 15,qX 41 25 1 1 40,ql 42 41,qb 43 .xor 38 42,qm 44 7,qB 45 .add 44 20,qX 46 25 1 1 45,ql 47 46,qb 48 .xor 43 47,qX 49 5 1 6 25,qu 1 49 48] [[],[],[1],[2,1],[],[4],[5,4],[6,5,4],[3,2,1,7,6,5,4],[],[9],[10,9],[11,10,9],[8,3,2,1,7,6,5,4,12,11,10,9],[],[14],[15,14],[16,15,14],[13,8,3,2,1,7,6,5,4,12,11,10,9,17,16,15,14],[],[19],[20,19],[21,20,19],[18,13,8,3,2,1,7,6,5,4,12,11,10,9,17,16,15,14,22,21,20,19],[0,1,2,3,4,5,6,7,8,9,10,11,12,13,14,15,16,17,18,19,20,21,22,23],[24,0,1,2,3,4,5,6,7,8,9,10,11,12,13,14,15,16,17,18,19,20,21,22,23]] [1,2,3,4,5,6,7])) (qS 10000 [qm 23 7,qB 24 .add 23 1,qm 7 24] [1,2,3,4,5,6,7])))
def sf:aQ:=(.seq (.seq (qS 13000 [qm 50 8,qB 51 .lss 50 25] [1,2,3,4,5,6,8,51]) (.cond (.t 51) .skip (.exit 4))) (.seq (.block 5 (.drawn 15000 [qm 54 8,qX 55 25 1 1 54,ql 56 55,qm 57 8,qB 58 .add 57 4,qB 59 .rem 58 5,qX 60 5 1 6 59,ql 61 60,qm 62 8,qB 63 .add 62 1,qB 64 .rem 63 5,qX 65 5 1 6 64,ql 66 65,qg 67 (.call 367 [(.t 66),(.c (.int .u64 1))]),qb 68 .xor 61 67,qb 69 .xor 56 68,qX 70 25 1 1 54,qu 1 70 69] [[],[0],[1,0],[],[3],[4,3],[5,4,3],[6,5,4,3],[],[8],[9,8],[10,9,8],[11,10,9,8],[12,11,10,9,8],[7,6,5,4,3,13,12,11,10,9,8],[2,1,0,14,7,6,5,4,3,13,12,11,10,9,8],[0,1,2,3,4,5,6,7,8,9,10,11,12,13,14,15],[16,0,1,2,3,4,5,6,7,8,9,10,11,12,13,14,15]] [1,2,3,4,5,6,8])) (qS 14000 [qm 52 8,qB 53 .add 52 1,qm 8 53] [1,2,3,4,5,6,8])))
def rQ:aQ:=(.seq (.seq (qS 21000 [qm 76 11,qB 77 .lss 76 5] [1,2,3,4,5,9,10,11,77]) (.cond (.t 77) .skip (.exit 8))) (.seq (.block 9 (.drawn 23000 [qm 80 11,qm 81 10,qD 82 .mul 2 81,qm 83 11,qD 84 .mul 3 83,qb 85 .add 82 84,qB 86 .rem 85 5,qD 87 .mul 5 86,qb 88 .add 80 87,qm 89 10,qm 90 11,qD 91 .mul 5 90,qb 92 .add 89 91,qX 93 25 1 1 92,ql 94 93,qm 95 10,qm 96 11,qD 97 .mul 5 96,qb 98 .add 95 97,qX 99 25 1 4 98,ql 100 99,qc 101 367 [94,100],qX 102 25 1 9 88,qu 1 102 101] [[],[],[1],[],[3],[2,1,4,3],[5,2,1,4,3],[6,5,2,1,4,3],[0,7,6,5,2,1,4,3],[],[],[10],[9,11,10],[12,9,11,10],[13,12,9,11,10],[],[],[16],[15,17,16],[18,15,17,16],[19,18,15,17,16],[14,13,12,9,11,10,20,19,18,15,17,16],[8,0,7,6,5,2,1,4,3,9,10,11,12,13,14,15,16,17,18,19,20,21],[22,8,0,7,6,5,2,1,4,3,9,10,11,12,13,14,15,16,17,18,19,20,21]] [1,2,3,4,5,9,10,11])) (qS 22000 [qm 78 11,qB 79 .add 78 1,qm 11 79] [1,2,3,4,5,9,10,11])))
def sq:aQ:=(.seq (.seq (qS 18000 [qm 72 10,qB 73 .lss 72 5] [1,2,3,4,5,9,10,73]) (.cond (.t 73) .skip (.exit 6))) (.seq (.block 7 (.seq (qS 20000 [qi 11 0] [1,2,3,4,5,9,10,11]) (.block 8 (.loop (pM (.close [23021]) rQ))))) (qS 19000 [qm 74 10,qB 75 .add 74 1,qm 10 75] [1,2,3,4,5,9,10])))
def sj:aQ:=(.seq (.seq (qS 28000 [qm 107 13,qB 108 .lss 107 5] [1,2,3,4,5,9,12,13,108]) (.cond (.t 108) .skip (.exit 12))) (.seq (.block 13 (.drawn 30000 [qm 111 12,qm 112 13,qD 113 .mul 5 112,qb 114 .add 111 113,qm 115 12,qm 116 13,qD 117 .mul 5 116,qb 118 .add 115 117,qX 119 25 1 9 118,ql 120 119,qm 121 12,qB 122 .add 121 1,qB 123 .rem 122 5,qm 124 13,qD 125 .mul 5 124,qb 126 .add 123 125,qX 127 25 1 9 126,ql 128 127,qg 129 (.un .xor (.t 128)),qm 130 12,qB 131 .add 130 2,qB 132 .rem 131 5,qm 133 13,qD 134 .mul 5 133,qb 135 .add 132 134,qX 136 25 1 9 135,ql 137 136,qb 138 .and 129 137,qb 139 .xor 120 138,qX 140 25 1 1 114,qu 1 140 139] [[],[],[1],[0,2,1],[],[],[5],[4,6,5],[7,4,6,5],[8,7,4,6,5],[],[10],[11,10],[],[13],[12,11,10,14,13],[15,12,11,10,14,13],[16,15,12,11,10,14,13],[17,16,15,12,11,10,14,13],[],[19],[20,19],[],[22],[21,20,19,23,22],[24,21,20,19,23,22],[25,24,21,20,19,23,22],[18,17,16,15,12,11,10,14,13,26,25,24,21,20,19,23,22],[9,8,7,4,6,5,27,18,17,16,15,12,11,10,14,13,26,25,24,21,20,19,23,22],[3,0,2,1,4,5,6,7,8,9,10,11,12,13,14,15,16,17,18,19,20,21,22,23,24,25,26,27,28],[29,3,0,2,1,4,5,6,7,8,9,10,11,12,13,14,15,16,17,18,19,20,21,22,23,24,25,26,27,28]] [1,2,3,4,5,9,12,13])) (qS 29000 [qm 109 13,qB 110 .add 109 1,qm 13 110] [1,2,3,4,5,9,12,13])))
def sw:aQ:=(.seq (.seq (qS 25000 [qm 103 12,qB 104 .lss 103 5] [1,2,3,4,5,9,12,104]) (.cond (.t 104) .skip (.exit 10))) (.seq (.block 11 (.seq (qS 27000 [qi 13 0] [1,2,3,4,5,9,12,13]) (.block 12 (.loop (pM (.close []) sj))))) (qS 26000 [qm 105 12,qB 106 .add 105 1,qm 12 106] [1,2,3,4,5,9,12])))
def tS:aQ:=(.seq (.seq (qS 5000 [qm 16 5,qB 17 .lss 16 24] [1,2,3,4,5,17]) (.cond (.t 17) .skip (.exit 0))) (.seq (.block 1 (.seq (qS 7000 [qg 20 (.build (zar .u64 5) []),qg 6 (.alloc (zar .u64 5)),qu 5 6 20] [1,2,3,4,5,6]) (.seq (.seq (qS 8000 [qi 7 0] [1,2,3,4,5,6,7]) (.block 2 (.loop (pM (.close []) ta)))) (.seq (.seq (qS 12000 [qi 8 0] [1,2,3,4,5,6,8]) (.block 4 (.loop (pM (.close [15013]) sf)))) (.seq (qS 16000 [qg 71 (.build (zar .u64 25) []),qg 9 (.alloc (zar .u64 25)),qu 25 9 71] [1,2,3,4,5,9]) (.seq (.seq (qS 17000 [qi 10 0] [1,2,3,4,5,9,10]) (.block 6 (.loop (pM (.close [23021]) sq)))) (.seq (.seq (qS 24000 [qi 12 0] [1,2,3,4,5,9,12]) (.block 10 (.loop (pM (.close []) sw)))) (.drawn 31000 [qg 141 (.idxArr 25 1 (.t 1) (qI 0)),ql 142 141,qm 143 5,qX 144 24 1 3 143,ql 145 144,qb 146 .xor 142 145,qg 147 (.idxArr 25 1 (.t 1) (qI 0)),qu 1 147 146] [[],[0],[],[2],[3,2],[1,0,4,3,2],[0,1,2,3,4,5],[6,0,1,2,3,4,5]] [1,2,3,4,5])))))))) (qS 6000 [qm 18 5,qB 19 .add 18 1,qm 5 19] [1,2,3,4,5])))
def FN:aQ:=(.seq (qS 1000 [qg 1 (.box 25 (.t 0)),qg 2 (.alloc (zar .u64 25))] [1,2]) (.seq (qS 2000 [qc 14 365 [],qg 3 (.alloc (zar .u64 24)),qu 24 3 14] [1,2,3]) (.seq (qS 3000 [qc 15 366 [],qg 4 (.alloc (zar .u64 25)),qu 25 4 15] [1,2,3,4]) (.seq (.seq (qS 4000 [qi 5 0] [1,2,3,4,5]) (.block 0 (.loop (pM (.close [7001,15013,16001,23021]) tS)))) (.seq (qS 32000 [qL 148 25 1,qu 25 2 148] [2]) .ret)))))
def sC:aJ:=⟨149,FN,[.cell 2 (.some 25)],.false,.false⟩
theorem OS:OkF 322 sC:=okq func322
def GE:=cv (a:=gT f323 [[1,2],[1,2,5],[1,2,5,6],[1,2,5,6,10],[1,2,5,6],[1,2,5,6],[4]] [(.close [6011,6012])])
def Ar:aJ:=⟨28,mkC GE.1,[.tmp 4],.false,.false⟩
def HF:=cv (a:=lp GE.1 0)
def J6:aQ:=mkC HF.1
theorem XL:OkF 323 Ar:=okq func323
def LA:=cv (a:=gT f324 [[0],[0,5],[2],[2]])
def xj:aJ:=⟨8,mkC LA.1,[.tmp 2],.false,.false⟩
theorem Uc:OkF 324 xj:=okq func324
def DV:=cv (a:=gT f325 [[0,2],[0,2,9],[0,2],[2],[0,2,3],[2,3],[2]] [] [(6,.close [5014])])
def qj:aJ:=⟨63,mkC DV.1,[.cell 2 (.some 2)],.false,.false⟩
theorem MW:OkF 325 qj:=okq func325
def DD:=cv (a:=gT f326 [[0,3,4],[0,3,4,5],[0,3,4,5,11,12,13],[0,3,4,5,11,12,13,14],[0,3,4,5,6,7,11,12,13],[0,3,4,5,6,8,11,12,13],[0,3,4,5,6,8,11,12,13,20,21],[0,3,4,5,6,8,11,12,13,20,21,22],[0,3,4,5,6,8,9,11,12,13,20,21],[0,3,4,5,6,8,9,11,12,13,20,21,26],[0,3,4,5,6,8,11,12,13,20,21],[0,3,4,5,6,8,11,12,13,20,21],[0,3,4,5,11,12,13],[0,3,4,5,11,12,13],[4]] [(.close [5003,6001,11004,11005,11008,11009,11010,13002]),(.close [11004,11005,11008,11009,11010])])
def Cw:aJ:=⟨44,mkC DD.1,[.cell 4 (.some 2)],.false,.false⟩
def KQ:=cv (a:=lp DD.1 0)
def KY:aQ:=mkC KQ.1
def LR:=cv (a:=lp DD.1 1)
def K3:aQ:=mkC LR.1
theorem a2Z:OkF 326 Cw:=okq func326
def VE:=cv (a:=gT f327 [[0,1,2,3,4],[0,2,3,4,25],[10],[0,11],[10]])
def GW:aJ:=⟨39,mkC VE.1,[.tmp 10],.false,.false⟩
theorem a4L:OkF 327 GW:=okq func327
def Lc:=cv (a:=gT f328 [[0,1,7,8,9,10],[7,8,9,10,11,12],[10]])
def wF:aJ:=⟨35,mkC Lc.1,[.cell 10 (.some 2)],.false,.false⟩
theorem UG:OkF 328 wF:=okq func328
def Rv:=cv (a:=gT f329 [[2,3,4],[4]])
def CV:aJ:=⟨16,mkC Rv.1,[.cell 4 (.some 2)],.false,.false⟩
theorem a3h:OkF 329 CV:=okq func329
def G1:=cv (a:=gT f330 [[0],[2]])
def rN:aJ:=⟨5,mkC G1.1,[.tmp 2],.false,.false⟩
theorem OD:OkF 330 rN:=okq func330
def DN:=cv (a:=gT f331 [[0,1,2,3,4],[0,2,3,4,25],[10],[0,2,3,4,11],[0,2,3,4,11,29],[0,2,3,4,11,37],[10],[0,2,3,4,11],[0,13],[10]] [(.close [])])
def wU:aJ:=⟨48,mkC DN.1,[.tmp 10],.false,.false⟩
def FW:=cv (a:=lp DN.1 0)
def GD:aQ:=mkC FW.1
theorem Us:OkF 331 wU:=okq func331
def gg:=cv (a:=gT f332 [[0,1],[0,1,7,8],[0,1,7,8,9],[0,1,5,7,8],[0,1,5,7,8,16],[4],[0,1,7,8],[4]] [(.close [5005])])
def dZ:aJ:=⟨19,mkC gg.1,[.tmp 4],.false,.false⟩
def jd:=cv (a:=lp gg.1 0)
def jg:aQ:=mkC jd.1
theorem qW:OkF 332 dZ:=okq func332
def e6:=cv (a:=gT f333 [[0,1],[0,1,7,8],[0,1,7,8,9],[0,1,5,7,8],[0,1,5,7,8,16],[4],[0,1,7,8],[4]] [(.close [5005])])
def cN:aJ:=⟨19,mkC e6.1,[.tmp 4],.false,.false⟩
def fG:=cv (a:=lp e6.1 0)
def dO:aQ:=mkC fG.1
theorem qP:OkF 333 cN:=okq func333
def fF:=cv (a:=gT f334 [[0,1],[0,1,7,8],[0,1,7,8,9],[0,1,5,7,8],[0,1,5,7,8,16],[4],[0,1,7,8],[4]] [(.close [5005])])
def dN:aJ:=⟨19,mkC fF.1,[.tmp 4],.false,.false⟩
def iE:=cv (a:=lp fF.1 0)
def iB:aQ:=mkC iE.1
theorem p9:OkF 334 dN:=okq func334
def j7:=cv (a:=gT f335 [[0,1],[0,1,7,8],[0,1,7,8,9],[0,1,5,7,8],[0,1,5,7,8,16],[4],[0,1,7,8],[4]] [(.close [5005])])
def ge:aJ:=⟨19,mkC j7.1,[.tmp 4],.false,.false⟩
def lY:=cv (a:=lp j7.1 0)
def lT:aQ:=mkC lY.1
theorem w5:OkF 335 ge:=okq func335
def uc:=cv (a:=gT f336 [[1],[1,3],[3,4],[3,4,5],[3,4,5,28],[3,4,5],[3,4,5,6],[3,4,5,6,46],[3,4,5,6,7],[3,4,5,6],[3,4,5,6],[3,4,5],[2]] [(.close [7006,11007,12007,12011]),(.close [11007,12007,12011])])
def tY:aJ:=⟨73,mkC uc.1,[.tmp 2],.false,.false⟩
def Eb:=cv (a:=lp uc.1 0)
def EL:aQ:=mkC Eb.1
def DR:=cv (a:=lp uc.1 1)
def DU:aQ:=mkC DR.1
theorem SN:OkF 336 tY:=okq func336
def Jg:=cv (a:=gT f337 [[1],[1,3],[3,4],[3,4,5],[3,4,5,21],[3,4,5],[2]] [(.close [])])
def CW:aJ:=⟨25,mkC Jg.1,[.tmp 2],.false,.false⟩
def L6:=cv (a:=lp Jg.1 0)
def Kt:aQ:=mkC L6.1
theorem a2v:OkF 337 CW:=okq func337
def GC:=cv (a:=gT f338 [[0,1,2],[0,1,2,11],[6],[0,1,2,7],[0,1,2,7,15],[0,1,2,7,8],[0,1,2,7,8,45],[6],[0,1,2,7,80],[6],[0,1,2,7],[6]] [(.close [7004,8006,8015,8021])])
def Ae:aJ:=⟨81,mkC GC.1,[.tmp 6],.false,.false⟩
def J5:=cv (a:=lp GC.1 0)
def Iv:aQ:=mkC J5.1
theorem XM:OkF 338 Ae:=okq func338
def Ob:=cv (a:=gT f341 [[1,2],[1,2],[1,2,10],[4],[1],[1,16],[4],[4]])
def As:aJ:=⟨18,mkC Ob.1,[.tmp 4],.false,.false⟩
theorem Zs:OkF 341 As:=okq func341
def NV:=cv (a:=gT f342 [[1,2],[1,2,3],[1,2,3],[2,3],[2]])
def A6:aJ:=⟨13,mkC NV.1,[.cell 2 (.some 2)],.false,.false⟩
theorem Yx:OkF 342 A6:=okq func342
def NO:=cv (a:=gT f343 [[2,3],[2,3,10],[4],[16],[4],[4]])
def zW:aJ:=⟨17,mkC NO.1,[.tmp 4],.false,.false⟩
theorem WG:OkF 343 zW:=okq func343
def B6:aQ:=(.seq (qS 4000 [qb 10 .lss 9 8] [2,3,7,8,9,10]) (.seq (.cond (.t 10) .skip (.exit 0)) (.seq (.block 1 (.seq (qS 5000 [qm 11 9,qx 12 1 7 9,ql 13 12,qm 4 11,qm 5 13] [2,3,4,5,7,8,9]) (.drawn 6000 [qm 14 4,qB 15 .quo 14 8,qX 16 25 1 3 15,ql 17 16,qm 18 5,qg 19 (.toInt .u64 (.t 18)),qm 20 4,qB 21 .rem 20 8,qD 22 .mul 8 21,qb 23 .shl 19 22,qb 24 .or 17 23,qX 25 25 1 3 15,qu 1 25 24] [[],[0],[1,0],[2,1,0],[],[4],[],[6],[7,6],[5,4,8,7,6],[3,2,1,0,9,5,4,8,7,6],[1,0,2,3,4,5,6,7,8,9,10],[11,1,0,2,3,4,5,6,7,8,9,10]] [2,3,7,8,9]))) (qS 7000 [qB 26 .add 9 1,qm 9 26] [2,3,7,8,9]))))
def NU:aQ:=(.seq (qS 1000 [qg 2 (.alloc (zar .u64 25))] [0,2]) (.seq (qS 2000 [qg 6 (.build (zar .u64 25) []),qg 3 (.alloc (zar .u64 25)),qu 25 3 6] [0,2,3]) (.seq (.seq (qS 3000 [qm 7 0,qn 8 7,qi 9 0] [2,3,7,8,9]) (.block 0 (.loop (pM (.close []) B6)))) (.seq (qS 8000 [qL 27 25 3,qu 25 2 27] [2]) .ret))))
def zC:aJ:=⟨28,NU,[.cell 2 (.some 25)],.false,.false⟩
theorem WR:OkF 344 zC:=okq func344
def ph:aQ:=(.seq (qS 8000 [qB 28 .lss 27 25] [0,2,5,6,7,20,21,26,27,28]) (.seq (.cond (.t 28) .skip (.exit 2)) (.seq (.block 3 (.seq (.drawn 9000 [qm 29 27,qk 30 26,qX 31 25 1 30 27,ql 32 31,qm 8 29,qm 9 32] [[],[],[1],[2,1],[0],[3,2,1,4,0]] [0,2,5,6,7,8,9,20,21,26,27]) (qS 10000 [qm 33 8,qB 34 .rem 33 5,qX 35 5 1 6 34,ql 36 35,qm 37 9,qb 38 .xor 36 37,qX 39 5 1 6 34,qu 1 39 38] [0,2,5,6,7,20,21,26,27]))) (qS 11000 [qB 40 .add 27 1,qm 27 40] [0,2,5,6,7,20,21,26,27]))))
def ob:aQ:=(.seq (qS 13000 [qB 43 .lss 42 25] [0,2,5,6,7,20,21,41,42,43]) (.seq (.cond (.t 43) .skip (.exit 4)) (.seq (.block 5 (.seq (.drawn 14000 [qm 44 42,qk 45 41,qX 46 25 1 45 42,ql 47 46,qm 10 44,qm 11 47] [[],[],[1],[2,1],[0],[3,2,1,4,0]] [0,2,5,6,7,10,11,20,21,41,42]) (.seq (qS 15000 [qm 48 10,qB 49 .rem 48 5,qm 50 10,qB 51 .quo 50 5,qm 12 49,qm 13 51] [0,2,5,6,7,10,11,12,13,20,21,41,42]) (.seq (.drawn 16000 [qm 52 11,qm 53 12,qB 54 .add 53 4,qB 55 .rem 54 5,qX 56 5 1 6 55,ql 57 56,qm 58 12,qB 59 .add 58 1,qB 60 .rem 59 5,qX 61 5 1 6 60,ql 62 61,qg 63 (.call 376 [(.t 62),(qI 1)]),qb 64 .xor 57 63,qb 65 .xor 52 64,qm 11 65] [[],[],[1],[2,1],[3,2,1],[4,3,2,1],[],[6],[7,6],[8,7,6],[9,8,7,6],[10,9,8,7,6],[5,4,3,2,1,11,10,9,8,7,6],[0,12,5,4,3,2,1,11,10,9,8,7,6],[13,0,12,5,4,3,2,1,11,10,9,8,7,6]] [0,2,5,6,7,10,11,12,13,20,21,41,42]) (qS 17000 [qm 66 13,qm 67 12,qD 68 .mul 2 67,qm 69 13,qD 70 .mul 3 69,qb 71 .add 68 70,qB 72 .rem 71 5,qD 73 .mul 5 72,qb 74 .add 66 73,qm 75 11,qm 76 10,qX 77 25 1 2 76,ql 78 77,qc 79 376 [75,78],qX 80 25 1 7 74,qu 1 80 79] [0,2,5,6,7,20,21,41,42]))))) (qS 18000 [qB 81 .add 42 1,qm 42 81] [0,2,5,6,7,20,21,41,42]))))
def o6:aQ:=(.seq (qS 20000 [qB 84 .lss 83 25] [0,2,5,7,20,21,82,83,84]) (.seq (.cond (.t 84) .skip (.exit 6)) (.seq (.block 7 (.seq (qS 21000 [qm 85 83,qg 86 (.ixAgg 25 1 .none (.t 82) (.t 83)),qm 14 85,qm 15 86] [0,2,5,7,14,15,20,21,82,83]) (.seq (qS 22000 [qm 87 14,qB 88 .rem 87 5,qm 89 14,qm 90 14,qB 91 .rem 90 5,qb 92 .sub 89 91,qm 16 88,qm 17 92] [0,2,5,7,14,15,16,17,20,21,82,83]) (.drawn 23000 [qm 93 0,qm 94 14,qm 95 15,qm 96 17,qm 97 16,qB 98 .add 97 2,qB 99 .rem 98 5,qb 100 .add 96 99,qX 101 25 1 7 100,ql 102 101,qm 103 17,qm 104 16,qB 105 .add 104 1,qB 106 .rem 105 5,qb 107 .add 103 106,qX 108 25 1 7 107,ql 109 108,qb 110 .andNot 102 109,qb 111 .xor 95 110,qk 112 93,qX 113 25 1 112 94,qu 1 113 111] [[],[],[],[],[],[4],[5,4],[3,6,5,4],[7,3,6,5,4],[8,7,3,6,5,4],[],[],[11],[12,11],[10,13,12,11],[14,10,13,12,11],[15,14,10,13,12,11],[9,8,7,3,6,5,4,16,15,14,10,13,12,11],[2,17,9,8,7,3,6,5,4,16,15,14,10,13,12,11],[0],[19,0,1,2,3,4,5,6,7,8,9,10,11,12,13,14,15,16,17,18],[20,19,0,1,2,3,4,5,6,7,8,9,10,11,12,13,14,15,16,17,18]] [0,2,5,7,20,21,82,83])))) (qS 24000 [qB 114 .add 83 1,qm 83 114] [0,2,5,7,20,21,82,83]))))
def pr:aQ:=(.seq (qS 4000 [qB 22 .lss 21 24] [0,2,20,21,22]) (.seq (.cond (.t 22) .skip (.exit 0)) (.seq (.block 1 (.seq (qS 5000 [qg 23 (.ixAgg 24 1 .none (.t 20) (.t 21)),qm 5 23] [0,2,5,20,21]) (.seq (qS 6000 [qg 24 (.build (zar .u64 5) []),qg 25 (.build (zar .u64 25) []),qg 6 (.alloc (zar .u64 5)),qg 7 (.alloc (zar .u64 25)),qu 5 6 24,qu 25 7 25] [0,2,5,6,7,20,21]) (.seq (.seq (qS 7000 [qm 26 0,qi 27 0] [0,2,5,6,7,20,21,26,27]) (.block 2 (.loop (pM (.close []) ph)))) (.seq (.seq (qS 12000 [qm 41 0,qi 42 0] [0,2,5,6,7,20,21,41,42]) (.block 4 (.loop (pM (.close [16011,17013]) ob)))) (.seq (.seq (qS 19000 [qL 82 25 7,qi 83 0] [0,2,5,7,20,21,82,83]) (.block 6 (.loop (pM (.close []) o6)))) (.drawn 25000 [qm 115 0,qk 116 115,qg 117 (.idxArr 25 1 (.t 116) (qI 0)),ql 118 117,qm 119 5,qb 120 .xor 118 119,qk 121 115,qg 122 (.idxArr 25 1 (.t 121) (qI 0)),qu 1 122 120] [[],[0],[1,0],[2,1,0],[],[3,2,1,0,4],[0],[6,0,1,2,3,4,5],[7,6,0,1,2,3,4,5]] [0,2,20,21]))))))) (qS 26000 [qB 123 .add 21 1,qm 21 123] [0,2,20,21]))))
def An:aQ:=(.seq (qS 1000 [qg 18 (.build (zar .i64 25) (Wp .i64 0 [0,1,62,28,27,36,44,6,55,20,3,10,43,25,39,41,45,15,21,8,18,2,61,56,14])),qg 2 (.alloc (zar .i64 25)),qu 25 2 18] [0,2]) (.seq (qS 2000 [qg 19 (.build (zar .u64 24) (Wp .u64 0 [1,32898,9223372036854808714,9223372039002292224,32907,2147483649,9223372039002292353,9223372036854808585,138,136,2147516425,2147483658,2147516555,9223372036854775947,9223372036854808713,9223372036854808579,9223372036854808578,9223372036854775936,32778,9223372039002259466,9223372039002292353,9223372036854808704,2147483649,9223372039002292232])),qg 3 (.alloc (zar .u64 24)),qu 24 3 19] [0,2,3]) (.seq (qS 3000 [qL 20 24 3,qi 21 0] [0,2,20,21]) (.block 0 (.loop (pM (.close [6002,6003,16011,17013]) pr))))))
def nl:aJ:=⟨124,An,[],.false,.false⟩
theorem Jl:OkF 345 nl:=okq func345
def yg:=cv (a:=gT f346 [[0],[0,3],[0,3,6],[0,3,6,7],[0,3,4,6],[0,3,6],[0,3,6],[2]] [(.close [6012,6013])])
def sn:aJ:=⟨25,mkC yg.1,[.tmp 2],.false,.false⟩
def Cn:=cv (a:=lp yg.1 0)
def Bh:aQ:=mkC Cn.1
theorem P2:OkF 346 sn:=okq func346
def Eo:=cv (a:=gT f348 [[0],[2],[2]])
def qr:aJ:=⟨8,mkC Eo.1,[.tmp 2],.false,.false⟩
theorem Ml:OkF 348 qr:=okq func348
def mf:=cv (a:=gT f349 [[0],[0,3],[3,6,7,8],[3,6,7,8,9],[3,5,6,7,8],[3,5,6,7,8,14],[2],[3,6,7,8],[2]] [(.close [])])
def jb:aJ:=⟨18,mkC mf.1,[.tmp 2],.false,.false⟩
def nL:=cv (a:=lp mf.1 0)
def nG:aQ:=mkC nL.1
theorem B4:OkF 349 jb:=okq func349
def k9:=cv (a:=gT f350 [[0,1],[0,1,5],[0,1,5,6],[0,1,6,11],[12],[4],[4],[0,1,13],[4],[0,1,16],[4],[19],[4],[4]])
def en:aJ:=⟨20,mkC k9.1,[.tmp 4],.false,.false⟩
theorem qU:OkF 350 en:=okq func350
def jO:=cv (a:=gT f351 [[1],[1,3],[3,22,23],[3,22,23,24],[3,5,22,23],[3,5,22,23],[3,22,23,30,31,32],[3,22,23,30,31,32,33],[3,7,22,23,30,31,32],[3,22,23,30,31,32],[3,22,23,30,31,32],[3,22,23],[2]] [(.close [6003,9002,10007,10008,10011]),(.close [9002,10007,10008,10011])])
def jM:aJ:=⟨51,mkC jO.1,[.tmp 2],.false,.false⟩
def BK:=cv (a:=lp jO.1 0)
def VV:aQ:=mkC BK.1
def iA:=cv (a:=lp jO.1 1)
def eu:aQ:=mkC iA.1
theorem Df:OkF 351 jM:=okq func351
def Fv:=cv (a:=gT f354 [[1,2,4],[4]])
def rG:aJ:=⟨14,mkC Fv.1,[.cell 4 (.some 2)],.false,.false⟩
theorem OR:OkF 354 rG:=okq func354
def XN:=cv (a:=gT f359 [[0,1],[0,1,5],[0,1,5,7],[0,1,5,12],[0,1,5],[0,1,5],[0,1,5],[4]] [(.close [6002,7002])])
def Pm:aJ:=⟨20,mkC XN.1,[.tmp 4],.false,.false⟩
def W4:=cv (a:=lp XN.1 0)
def Wj:aQ:=mkC W4.1
theorem b2m:OkF 359 Pm:=okq func359
def Nb:=cv (a:=gT f361 [[0],[2]])
def zp:aJ:=⟨8,mkC Nb.1,[.tmp 2],.false,.false⟩
theorem Wr:OkF 361 zp:=okq func361
def Fa:=cv (a:=gT f362 [[0],[0,3],[0,3,8],[0,3],[2]] [(.close [])])
def zG:aJ:=⟨12,mkC Fa.1,[.tmp 2],.false,.false⟩
def HI:=cv (a:=lp Fa.1 0)
def I5:aQ:=mkC HI.1
theorem Zr:OkF 362 zG:=okq func362
def JF:=cv (a:=gT f364 [[0,1],[0,1,5],[0,1,5,7],[0,1,5,10],[0,1,5],[0,1,5],[0,1,5],[4]] [(.close [5002,6002])])
def Cq:aJ:=⟨20,mkC JF.1,[.tmp 4],.false,.false⟩
def Lm:=cv (a:=lp JF.1 0)
def LK:aQ:=mkC Lm.1
theorem a1m:OkF 364 Cq:=okq func364
def J0:aQ:=(.seq (qS 1000 [qg 0 (.alloc (zar .u64 24))] [0]) (.seq (qS 2000 [qg 1 (.build (zar .u64 24) (Wp .u64 0 [1,32898,9223372036854808714,9223372039002292224,32907,2147483649,9223372039002292353,9223372036854808585,138,136,2147516425,2147483658,2147516555,9223372036854775947,9223372036854808713,9223372036854808579,9223372036854808578,9223372036854775936,32778,9223372039002259466,9223372039002292353,9223372036854808704,2147483649,9223372039002292232])),qu 24 0 1] [0]) .ret))
def tV:aJ:=⟨2,J0,[.cell 0 (.some 24)],.false,.false⟩
theorem PR:OkF 365 tV:=okq func365
def Iw:aQ:=(.seq (qS 1000 [qg 0 (.alloc (zar .u64 25))] [0]) (.seq (qS 2000 [qg 1 (.build (zar .u64 25) (Wp .u64 0 [0,1,62,28,27,36,44,6,55,20,3,10,43,25,39,41,45,15,21,8,18,2,61,56,14])),qu 25 0 1] [0]) .ret))
def ub:aJ:=⟨2,Iw,[.cell 0 (.some 25)],.false,.false⟩
theorem RD:OkF 366 ub:=okq func366
def O2:=cv (a:=gT f367 [[0,1],[0,1,6],[4],[4]])
def Aa:aJ:=⟨16,mkC O2.1,[.tmp 4],.false,.false⟩
theorem Zy:OkF 367 Aa:=okq func367
def JV:=cv (a:=gT f368 [[0],[0,3],[3,6,7,8],[3,6,7,8,9],[3,5,6,7,8],[3,6,7,8],[3,6,7,8],[2]] [(.close [])])
def D2:aJ:=⟨21,mkC JV.1,[.tmp 2],.false,.false⟩
def KU:=cv (a:=lp JV.1 0)
def LN:aQ:=mkC KU.1
theorem a3v:OkF 368 D2:=okq func368
def N5:=cv (a:=gT f369 [[0],[2]])
def zM:aJ:=⟨5,mkC N5.1,[.tmp 2],.false,.false⟩
theorem Z9:OkF 369 zM:=okq func369
def Nz:=cv (a:=gT f370 [[0],[2]])
def A8:aJ:=⟨6,mkC Nz.1,[.tmp 2],.false,.false⟩
theorem Z0:OkF 370 A8:=okq func370
def MP:=cv (a:=gT f371 [[0,1,2],[0,2,7],[0,7,14,15,16],[0,7,14,15,16,17],[0,7,8,9,14,15,16],[0,7,8,9,10,14,15,16],[0,7,9,10,14,15,16,30],[0,7,9,10,14,15,16],[0,7,14,15,16],[0,7,14,15,16],[6]] [(.close [6004,9003,9004,9005])])
def H3:aJ:=⟨41,mkC MP.1,[.tmp 6],.false,.false⟩
def O7:=cv (a:=lp MP.1 0)
def NC:aQ:=mkC O7.1
theorem a4O:OkF 371 H3:=okq func371
def Mr:=cv (a:=gT f372 [[0,1,2],[0,1,2,8],[0,2,8,9],[0,2,8,9,10],[0,2,8,9,10,20],[0,2,8,9,10,11],[0,2,8,9,10,11,32],[0,2,8,10,11],[0,2,8,10,11],[0,2,8,9,10],[0,2,8,9,10],[0,2,8,9,10],[6,7]] [(.close [10002,10003,11001])])
def He:aJ:=⟨50,mkC Mr.1,[.tmp 6,.tmp 7],.false,.false⟩
def NB:=cv (a:=lp Mr.1 0)
def NS:aQ:=mkC NB.1
theorem a56:OkF 372 He:=okq func372
def yD:=cv (a:=gT f373 [[0,1],[0,1],[0,1,11],[4],[0,1,5],[0,1,5,15],[0,1,5],[0,1,5,25],[4],[0,1,5],[4]] [(.close [8005])])
def rF:aJ:=⟨27,mkC yD.1,[.tmp 4],.false,.false⟩
def Bo:=cv (a:=lp yD.1 0)
def BH:aQ:=mkC Bo.1
theorem P4:OkF 373 rF:=okq func373
def yA:=cv (a:=gT f374 [[0],[0,3],[0,3,4],[0,3,4,11],[0,3,4],[0,3,4],[2]] [(.close [6006])])
def rM:aJ:=⟨23,mkC yA.1,[.tmp 2],.false,.false⟩
def BA:=cv (a:=lp yA.1 0)
def Bf:aQ:=mkC BA.1
theorem P1:OkF 374 rM:=okq func374
def yf:=cv (a:=gT f375 [[0,1],[0,1,10],[4],[0,1,5],[0,1,5,14],[0,1,5,26],[4],[0,1,5],[4]] [(.close [7008])])
def sk:aJ:=⟨27,mkC yf.1,[.tmp 4],.false,.false⟩
def BW:=cv (a:=lp yf.1 0)
def BZ:aQ:=mkC BW.1
theorem OQ:OkF 375 sk:=okq func375
def pB:=cv (a:=gT f376 [[0,1],[0,5],[4]])
def im:aJ:=⟨17,mkC pB.1,[.tmp 4],.false,.false⟩
theorem zf:OkF 376 im:=okq func376
def A9:=cv (a:=gT f386 [[0,2],[0,2,4],[0],[0,2],[0,2,8],[0,2],[0,2],[0,2,14],[0,2],[0,2],[2]])
def nr:aJ:=⟨25,mkC A9.1,[.tmp 2],.false,.false⟩
theorem Jc:OkF 386 nr:=okq func386
end Go.AI.Fn
