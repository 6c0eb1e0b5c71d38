/- Codes. -/
import Derived.Test.YtdmhkkcihecndaaGreatTb0
set_option linter.unusedVariables false
set_option maxRecDepth 100000
set_option maxHeartbeats 2000000
namespace Go.AI.Fn
open Proofs.Tryz
def Ly:=cv (a:=gT f225 [[1,2],[4]])
def uZ:ae:=⟨9,mkC Ly.1,[.tmp 4],.false,.false⟩
theorem Ww:OkF 225 uZ:=okq func225
def Lh:=cv (a:=gT f226 [[3,4,5],[6]])
def vh:ae:=⟨61,mkC Lh.1,[.tmp 6],.false,.false⟩
theorem Uq:OkF 226 vh:=okq func226
def w8:=cv (a:=gT f227 [[0,3,6,7,9],[0,3,6,7,9],[0,3,6,7,9],[0,3,6,7,9,11],[0,3,6,7,9,11,12,13,14],[0,3,6,7,9,11,12,13,14,44],[10],[0,3,6,7,9,12,13,48],[10],[0,3,6,7,9,12,13],[0,3,6,7,9,12,13,15],[0,3,6,7,9,12,13,14,15,16],[0,3,6,7,9,12,13,14,15,16,91],[10],[0,3,6,7,9,12,13,15,16,17,18],[0,3,6,7,9,13,17,18,19],[0,7,9,17,124],[10],[0,7,9,17],[10]])
def jT:ae:=⟨140,mkC w8.1,[.tmp 10],.false,.false⟩
theorem Hh:OkF 227 jT:=okq func227
def Lq:=cv (a:=gT f228 [[2,3],[2,3,9],[4],[2,3,14],[4],[19],[4],[4]])
def vB:ae:=⟨20,mkC Lq.1,[.tmp 4],.false,.false⟩
theorem UW:OkF 228 vB:=okq func228
def A9:=cv (a:=gT f231 [[0,1],[0,1,12],[1],[4],[0,1,5],[5],[4]])
def mS:ae:=⟨35,mkC A9.1,[.tmp 4],.false,.false⟩
theorem JL:OkF 231 mS:=okq func231
def A6:=cv (a:=gT f232 [[0,1],[0,5,6],[5],[4]])
def mD:ae:=⟨26,mkC A6.1,[.tmp 4],.false,.false⟩
theorem Ka:OkF 232 mD:=okq func232
def Cr:=cv (a:=gT f233 [[0,2],[2,3],[2,3,8],[2],[2]])
def oi:ae:=⟨13,mkC Cr.1,[.cell 2 (.some 2)],.false,.false⟩
theorem LZ:OkF 233 oi:=okq func233
def kL:=cv (a:=gT f234 [[0,1,5,6],[0,1,5,6,7],[0,1,5,6,7,8],[0,1,5,6,7,8,21],[0,1,5,6,7,8],[0,1,5,6,7,8],[0,1,5,6,7,9],[0,1,5,6,7,9,33],[0,1,5,6,7,9],[0,1,5,6,7,9],[0,1,5,6,7],[0,1,5,6,7],[0,1,5,6,7,10],[0,1,5,6,7,10,53],[0,1,5,6,7,10,11],[0,1,5,6,7,10,11,12],[0,1,5,6,7,10,11,12,64],[0,1,5,6,7,10,11,12,13],[0,1,5,6,7,10,11,12,13,14],[0,1,5,6,7,10,11,12,13,14,76],[0,1,5,6,7,10,11,12,13,14],[0,1,5,6,7,10,11,12,13,14],[0,1,5,6,7,10,11,12],[0,1,5,6,7,10,11,12],[0,1,5,6,7,10],[0,1,5,6,7,10],[6]] [(.close [6003,6004,6005]),(.close [10003,10004,10005]),(.close [16003,16004,16006,20000,24002,24003,24004,25003,25004,26003,26004]),(.close [20000,24002,24003,24004,25003,25004]),(.close [24002,24003,24004])])
def vS:ae:=⟨97,mkC kL.1,[.cell 6 (.some 6)],.false,.false⟩
def Et:=cv (a:=lp kL.1 0)
def G5:ai:=mkC Et.1
def Fm:=cv (a:=lp kL.1 1)
def F6:ai:=mkC Fm.1
def CN:=cv (a:=lp kL.1 2)
def Ca:ai:=mkC CN.1
def CF:=cv (a:=lp kL.1 3)
def Dt:ai:=mkC CF.1
def Cd:=cv (a:=lp kL.1 4)
def BS:ai:=mkC Cd.1
theorem Wc:OkF 234 vS:=okq func234
def Gv:=cv (a:=gT f235 [[2,3],[4]])
def pH:ae:=⟨21,mkC Gv.1,[.tmp 4],.false,.false⟩
theorem OS:OkF 235 pH:=okq func235
def sg:=cv (a:=gT f236 [[0],[2]])
def iA:ae:=⟨6,mkC sg.1,[.tmp 2],.false,.false⟩
theorem BQ:OkF 236 iA:=okq func236
def jQ:=cv (a:=gT f237 [[0,1,2],[0,1,2,7],[0,2,7,9,10],[0,2,7,9,10,11],[0,2,7,9,10],[0,2,7,9,10],[6]] [(.close [5003,5004,5005])])
def gG:ae:=⟨20,mkC jQ.1,[.tmp 6],.false,.false⟩
def nS:=cv (a:=lp jQ.1 0)
def nV:ai:=mkC nS.1
theorem yV:OkF 237 gG:=okq func237
def sw:=cv (a:=gT f238 [[0,1],[5],[4]])
def iz:ae:=⟨16,mkC sw.1,[.tmp 4],.false,.false⟩
theorem BT:OkF 238 iz:=okq func238
def cV:=cv (a:=gT f239 [[0,1,5,6],[0,1,5,6,7],[0,1,5,6,7,16,17],[0,1,5,6,7,16,17,18],[0,1,5,6,7,16,17],[0,1,5,6,7,16,17],[0,1,5,6,7],[0,1,5,6,7],[0,1,5,6,7,37,38],[0,1,5,6,7,37,38,39],[0,1,5,6,7,8,37,38],[0,1,5,6,7,8,37,38,45,46],[0,1,5,6,7,8,37,38,45,46,47],[0,1,5,6,7,8,9,37,38,45,46],[0,1,5,6,7,8,9,10,37,38,45,46],[0,1,5,6,7,8,10,37,38,45,46,56,57],[0,1,5,6,7,8,10,37,38,45,46,56,57,58],[0,1,5,6,7,8,10,37,38,45,46,56,57],[0,1,5,6,7,8,10,37,38,45,46,56,57],[0,1,5,6,7,8,37,38,45,46],[0,1,5,6,7,8,37,38,45,46],[0,1,5,6,7,37,38],[0,1,5,6,7,37,38],[6]] [(.both (.close [5003,5004,5005]) (.nilCell 2004 1 4900 1)),(.both (.close [11003,11005,15000,18002,18003,18004,20003,20004,22003,22004,13900]) (.nilCell 2004 5 10900 2)),(.both (.close [15000,18002,18003,18004,20003,20004]) (.nilCell 11005 1 13900 1)),(.close [18002,18003,18004])])
def fL:ae:=⟨80,mkC cV.1,[.cell 6 (.some 6)],.false,.false⟩
def mu:=cv (a:=lp cV.1 0)
def mr:ai:=mkC mu.1
def lU:=cv (a:=lp cV.1 1)
def ms:ai:=mkC lU.1
def ln:=cv (a:=lp cV.1 2)
def lr:ai:=mkC ln.1
def lu:=cv (a:=lp cV.1 3)
def ll:ai:=mkC lu.1
theorem xl:OkF 239 fL:=okq func239
def NL:=cv (a:=gT f244 [[0,1],[4]])
def zT:ae:=⟨9,mkC NL.1,[.tmp 4],.false,.false⟩
theorem Yp:OkF 244 zT:=okq func244
def Pm:=cv (a:=gT f245 [[0,1],[4]])
def zS:ae:=⟨10,mkC Pm.1,[.tmp 4],.false,.false⟩
theorem Yk:OkF 245 zS:=okq func245
def OR:=cv (a:=gT f246 [[0,1],[4]])
def zD:ae:=⟨9,mkC OR.1,[.tmp 4],.false,.false⟩
theorem Zz:OkF 246 zD:=okq func246
def D4:=cv (a:=gT f247 [[0,1],[0,5],[0,5,6],[0,5,6,12],[0,5,6],[0,5,6],[4]] [(.close [6006])])
def wg:ae:=⟨24,mkC D4.1,[.tmp 4],.false,.false⟩
def Gd:=cv (a:=lp D4.1 0)
def Gc:ai:=mkC Gd.1
theorem X2:OkF 247 wg:=okq func247
def pA:=cv (a:=gT f248 [[1,2,3],[1,2,7],[1,2,7,8],[1,2,7,8],[1,2,7,8,9],[1,2,7,8,9,24],[1,2,7,8,9],[1,2,7,8,9],[2,7,8,10],[2,7,8,10,38],[2,7,8,10],[2,7,8,10],[6]] [(.close []),(.close [])])
def pQ:ae:=⟨51,mkC pA.1,[.tmp 6],.false,.false⟩
def AY:=cv (a:=lp pA.1 0)
def Ao:ai:=mkC AY.1
def Ae:=cv (a:=lp pA.1 1)
def Aa:ai:=mkC Ae.1
theorem Pk:OkF 248 pQ:=okq func248
def Bo:=cv (a:=gT f255 [[0,1,2],[0,1,2,11],[6],[0,1,2,7],[0,1,2,7,15],[0,1,2,7,8],[0,1,2,7,8,45],[6],[0,1,2,7,80],[6],[0,1,2,7],[6]] [(.close [7004,8006,8015,8021])])
def vk:ae:=⟨81,mkC Bo.1,[.tmp 6],.false,.false⟩
def Fl:=cv (a:=lp Bo.1 0)
def Es:ai:=mkC Fl.1
theorem VN:OkF 255 vk:=okq func255
def AB:=cv (a:=gT f256 [[1],[2]])
def mH:ae:=⟨7,mkC AB.1,[.tmp 2],.false,.false⟩
theorem Kb:OkF 256 mH:=okq func256
def sv:=cv (a:=gT f257 [[1,2],[2]])
def iy:ae:=⟨10,mkC sv.1,[.cell 2 (.some 3)],.false,.false⟩
theorem CY:OkF 257 iy:=okq func257
def zM:=cv (a:=gT f258 [[0,1,2],[0,1,2,9,10,11],[0,1,2,9,10,11,12],[0,1,2,7,8,9,10,11],[0,1,2,9,10,11,49],[6],[0,1,2,9,10,11],[6]] [(.close [4003,5004,5011,5017,5030])])
def tm:ae:=⟨54,mkC zM.1,[.tmp 6],.false,.false⟩
def D8:=cv (a:=lp zM.1 0)
def BN:ai:=mkC D8.1
theorem RY:OkF 258 tm:=okq func258
def zi:=cv (a:=gT f266 [[0],[0,3],[0,3,4],[0,3,4,6],[0,3,4],[0,3,4],[2]] [(.close [])])
def sD:ae:=⟨18,mkC zi.1,[.tmp 2],.false,.false⟩
def Dq:=cv (a:=lp zi.1 0)
def CA:ai:=mkC Dq.1
theorem Ra:OkF 266 sD:=okq func266
def Qg:=cv (a:=gT f267 [[0],[2]])
def zs:ae:=⟨7,mkC Qg.1,[.tmp 2],.false,.false⟩
theorem YZ:OkF 267 zs:=okq func267
def Jw:=cv (a:=gT f268 [[0],[2]])
def tB:ae:=⟨5,mkC Jw.1,[.tmp 2],.false,.false⟩
theorem Sg:OkF 268 tB:=okq func268
def Jz:=cv (a:=gT f269 [[0,1],[4]])
def sQ:ae:=⟨9,mkC Jz.1,[.tmp 4],.false,.false⟩
theorem QM:OkF 269 sQ:=okq func269
def yS:=cv (a:=gT f270 [[0],[0,3],[3,7,8,9],[3,7,8,9,10],[3,5,7,8,9],[3,7,8,9],[3,7,8,9],[2]] [(.close [5002,6003,6006])])
def ta:ae:=⟨22,mkC yS.1,[.tmp 2],.false,.false⟩
def Dn:=cv (a:=lp yS.1 0)
def Dr:ai:=mkC Dn.1
theorem QF:OkF 270 ta:=okq func270
def XN:=cv (a:=gT f272 [[0],[2]])
def IT:ae:=⟨7,mkC XN.1,[.tmp 2],.false,.false⟩
theorem a4t:OkF 272 IT:=okq func272
def T4:=cv (a:=gT f273 [[0],[2]])
def DN:ae:=⟨7,mkC T4.1,[.tmp 2],.false,.false⟩
theorem a1o:OkF 273 DN:=okq func273
def a3d:=cv (a:=gT f274 [[0,1],[4]])
def MY:ae:=⟨10,mkC a3d.1,[.tmp 4],.false,.false⟩
theorem a7w:OkF 274 MY:=okq func274
def Lt:=cv (a:=gT f275 [[0],[2]])
def vv:ae:=⟨6,mkC Lt.1,[.tmp 2],.false,.false⟩
theorem UR:OkF 275 vv:=okq func275
def Lz:=cv (a:=gT f278 [[0],[2]])
def vy:ae:=⟨8,mkC Lz.1,[.tmp 2],.false,.false⟩
theorem UZ:OkF 278 vy:=okq func278
def CI:=cv (a:=gT f279 [[0],[0,3],[0,3,8],[0,3],[2]] [(.close [])])
def vY:ae:=⟨12,mkC CI.1,[.tmp 2],.false,.false⟩
def G3:=cv (a:=lp CI.1 0)
def ES:ai:=mkC G3.1
theorem UM:OkF 279 vY:=okq func279
def ND:=cv (a:=gT f280 [[2,3,4],[4]])
def zA:ae:=⟨16,mkC ND.1,[.cell 4 (.some 2)],.false,.false⟩
theorem Xx:OkF 280 zA:=okq func280
def Ax:=cv (a:=gT f282 [[0,2],[0,2,9],[0,2],[2],[0,2,3],[2,3],[2]] [] [(6,.close [5014])])
def n6:ae:=⟨63,mkC Ax.1,[.cell 2 (.some 2)],.false,.false⟩
theorem Kk:OkF 282 n6:=okq func282
def Hu:=cv (a:=gT f284 [[0,1,7,8,9,10],[7,8,9,10,11,12],[10]])
def sS:ae:=⟨35,mkC Hu.1,[.cell 10 (.some 2)],.false,.false⟩
theorem Rl:OkF 284 sS:=okq func284
def OB:=cv (a:=gT f285 [[0],[0]])
def yI:ae:=⟨2,mkC OB.1,[.cell 0 (.some 2)],.false,.false⟩
theorem YT:OkF 285 yI:=okq func285
def Ei:=cv (a:=gT f286 [[0],[2]])
def pI:ae:=⟨5,mkC Ei.1,[.tmp 2],.false,.false⟩
theorem Qe:OkF 286 pI:=okq func286
def T5:=cv (a:=gT f288 [[0,2],[2]])
def DB:ae:=⟨5,mkC T5.1,[.cell 2 (.some 2)],.false,.false⟩
theorem a2Z:OkF 288 DB:=okq func288
def Ln:=cv (a:=gT f290 [[0,1,7,8,9,10],[7,8,9,10,11],[7,8,9,10,11,12],[7,8,9,10,11,12,13],[9,10,13,14],[10]])
def vV:ae:=⟨41,mkC Ln.1,[.cell 10 (.some 2)],.false,.false⟩
theorem Vl:OkF 290 vV:=okq func290
def a35:=cv (a:=gT f291 [[0,1],[4]])
def N0:ae:=⟨9,mkC a35.1,[.tmp 4],.false,.false⟩
theorem b0Z:OkF 291 N0:=okq func291
def eg:=cv (a:=gT f292 [[0,1],[0,1,7,8],[0,1,7,8,9],[0,1,5,7,8],[0,1,5,7,8,16],[4],[0,1,7,8],[4]] [(.close [5005])])
def cK:ae:=⟨19,mkC eg.1,[.tmp 4],.false,.false⟩
def gN:=cv (a:=lp eg.1 0)
def gL:ai:=mkC gN.1
theorem o9:OkF 292 cK:=okq func292
def HV:=cv (a:=gT f293 [[0],[0,5],[2],[2]])
def sJ:ae:=⟨8,mkC HV.1,[.tmp 2],.false,.false⟩
theorem QE:OkF 293 sJ:=okq func293
def yJ:=cv (a:=gT f294 [[0,3,4],[0,3,4,5],[0,3,4,5,11,12,13],[0,3,4,5,11,12,13,14],[0,3,4,5,6,7,11,12,13],[0,3,4,5,6,8,11,12,13],[0,3,4,5,6,8,11,12,13,20,21],[0,3,4,5,6,8,11,12,13,20,21,22],[0,3,4,5,6,8,9,11,12,13,20,21],[0,3,4,5,6,8,9,11,12,13,20,21,26],[0,3,4,5,6,8,11,12,13,20,21],[0,3,4,5,6,8,11,12,13,20,21],[0,3,4,5,11,12,13],[0,3,4,5,11,12,13],[4]] [(.close [5003,6001,11004,11005,11008,11009,11010,13002]),(.close [11004,11005,11008,11009,11010])])
def zV:ae:=⟨44,mkC yJ.1,[.cell 4 (.some 2)],.false,.false⟩
def Iv:=cv (a:=lp yJ.1 0)
def HW:ai:=mkC Iv.1
def Ht:=cv (a:=lp yJ.1 1)
def J9:ai:=mkC Ht.1
theorem ZE:OkF 294 zV:=okq func294
def GN:=cv (a:=gT f295 [[0],[0,3],[3,6,7,8],[3,6,7,8,9],[3,5,6,7,8],[3,6,7,8],[3,6,7,8],[2]] [(.close [])])
def zg:ae:=⟨19,mkC GN.1,[.tmp 2],.false,.false⟩
def HC:=cv (a:=lp GN.1 0)
def Jv:ai:=mkC HC.1
theorem YX:OkF 295 zg:=okq func295
def T0:=cv (a:=gT f296 [[0,1,2,3,4],[0,2,3,4,25],[10],[0,11],[10]])
def DM:ae:=⟨39,mkC T0.1,[.tmp 10],.false,.false⟩
theorem a0J:OkF 296 DM:=okq func296
def lS:=cv (a:=gT f297 [[0,1],[0,5],[4]])
def eP:ae:=⟨17,mkC lS.1,[.tmp 4],.false,.false⟩
theorem uU:OkF 297 eP:=okq func297
def CT:=cv (a:=gT f298 [[0],[2]])
def oh:ae:=⟨5,mkC CT.1,[.tmp 2],.false,.false⟩
theorem MG:OkF 298 oh:=okq func298
def zO:=cv (a:=gT f299 [[0,1,2,3,4],[0,2,3,4,25],[10],[0,2,3,4,11],[0,2,3,4,11,29],[0,2,3,4,11,37],[10],[0,2,3,4,11],[0,13],[10]] [(.close [])])
def sC:ae:=⟨48,mkC zO.1,[.tmp 10],.false,.false⟩
def BP:=cv (a:=lp zO.1 0)
def BO:ai:=mkC BP.1
theorem Sj:OkF 299 sC:=okq func299
def dG:=cv (a:=gT f300 [[0,1],[0,1,7,8],[0,1,7,8,9],[0,1,5,7,8],[0,1,5,7,8,16],[4],[0,1,7,8],[4]] [(.close [5005])])
def cy:ae:=⟨19,mkC dG.1,[.tmp 4],.false,.false⟩
def fV:=cv (a:=lp dG.1 0)
def fS:ai:=mkC fV.1
theorem nw:OkF 300 cy:=okq func300
def cw:=cv (a:=gT f301 [[0,1],[0,1,7,8],[0,1,7,8,9],[0,1,5,7,8],[0,1,5,7,8,16],[4],[0,1,7,8],[4]] [(.close [5005])])
def bk:ae:=⟨19,mkC cw.1,[.tmp 4],.false,.false⟩
def dn:=cv (a:=lp cw.1 0)
def ck:ai:=mkC dn.1
theorem np:OkF 301 bk:=okq func301
def dp:=cv (a:=gT f302 [[0,1],[0,1,7,8],[0,1,7,8,9],[0,1,5,7,8],[0,1,5,7,8,16],[4],[0,1,7,8],[4]] [(.close [5005])])
def cj:ae:=⟨19,mkC dp.1,[.tmp 4],.false,.false⟩
def fi:=cv (a:=lp dp.1 0)
def fe:ai:=mkC fi.1
theorem lB:OkF 302 cj:=okq func302
def uq:ai:=(.seq (.seq (qS 4000 [qm 6 4,qm 7 0,qg 8 (.len .true (.t 7)),qb 9 .lss 6 8] [0,2,3,4,9]) (.cond (.t 9) .skip (.exit 0))) (.seq (.block 1 (.drawn 6000 [qm 12 4,qB 13 .quo 12 8,qX 14 25 1 3 13,ql 15 14,qm 16 0,qm 17 4,qg 18 (.ixStr (.t 16) (.t 17)),qg 19 (.toInt .u64 (.t 18)),qm 20 4,qB 21 .rem 20 8,qD 22 .mul 8 21,qg 23 (.toInt .u64 (.t 22)),qb 24 .shl 19 23,qb 25 .or 15 24,qX 26 25 1 3 13,qu 1 26 25] [[],[0],[1,0],[2,1,0],[],[],[4,5],[6,4,5],[],[8],[9,8],[10,9,8],[7,6,4,5,11,10,9,8],[3,2,1,0,12,7,6,4,5,11,10,9,8],[1,0,2,3,4,5,6,7,8,9,10,11,12,13],[14,1,0,2,3,4,5,6,7,8,9,10,11,12,13]] [0,2,3,4])) (qS 5000 [qm 10 4,qB 11 .add 10 1,qm 4 11] [0,2,3,4])))
def Ia:ai:=(.seq (qS 1000 [qg 2 (.alloc (zar .u64 25))] [0,2]) (.seq (qS 2000 [qg 5 (.build (zar .u64 25) []),qg 3 (.alloc (zar .u64 25)),qu 25 3 5] [0,2,3]) (.seq (.seq (qS 3000 [qi 4 0] [0,2,3,4]) (.block 0 (.loop (lR (.close []) uq)))) (.seq (qS 7000 [qL 27 25 3,qu 25 2 27] [2]) .ret))))
def sX:ae:=⟨28,Ia,[.cell 2 (.some 25)],.false,.false⟩
theorem QR:OkF 304 sX:=okq func304
def oK:ai:=(.seq (.seq (qS 9000 [qm 21 7,qB 22 .lss 21 5] [1,2,3,4,5,6,7,22]) (.cond (.t 22) .skip (.exit 2))) (.seq (.block 3 (.drawn 11000 [qm 25 7,qm 26 7,qX 27 25 1 1 26,ql 28 27,qm 29 7,qB 30 .add 29 5,qX 31 25 1 1 30,ql 32 31,qb 33 .xor 28 32,qm 34 7,qB 35 .add 34 10,qX 36 25 1 1 35,ql 37 36,qb 38 .xor 33 37,qm 39 7,qB 40 .add 39 15,qX 41 25 1 1 40,ql 42 41,qb 43 .xor 38 42,qm 44 7,qB 45 .add 44 20,qX 46 25 1 1 45,ql 47 46,qb 48 .xor 43 47,qX 49 5 1 6 25,qu 1 49 48] [[],[],[1],[2,1],[],[4],[5,4],[6,5,4],[3,2,1,7,6,5,4],[],[9],[10,9],[11,10,9],[8,3,2,1,7,6,5,4,12,11,10,9],[],[14],[15,14],[16,15,14],[13,8,3,2,1,7,6,5,4,12,11,10,9,17,16,15,14],[],[19],[20,19],[21,20,19],[18,13,8,3,2,1,7,6,5,4,12,11,10,9,17,16,15,14,22,21,20,19],[0,1,2,3,4,5,6,7,8,9,10,11,12,13,14,15,16,17,18,19,20,21,22,23],[24,0,1,2,3,4,5,6,7,8,9,10,11,12,13,14,15,16,17,18,19,20,21,22,23]] [1,2,3,4,5,6,7])) (qS 10000 [qm 23 7,qB 24 .add 23 1,qm 7 24] [1,2,3,4,5,6,7])))
def oB:ai:=(.seq (.seq (qS 13000 [qm 50 8,qB 51 .lss 50 25] [1,2,3,4,5,6,8,51]) (.cond (.t 51) .skip (.exit 4))) (.seq (.block 5 (.drawn 15000 [qm 54 8,qX 55 25 1 1 54,ql 56 55,qm 57 8,qB 58 .add 57 4,qB 59 .rem 58 5,qX 60 5 1 6 59,ql 61 60,qm 62 8,qB 63 .add 62 1,qB 64 .rem 63 5,qX 65 5 1 6 64,ql 66 65,qg 67 (.call 345 [(.t 66),(.c (.int .u64 1))]),qb 68 .xor 61 67,qb 69 .xor 56 68,qX 70 25 1 1 54,qu 1 70 69] [[],[0],[1,0],[],[3],[4,3],[5,4,3],[6,5,4,3],[],[8],[9,8],[10,9,8],[11,10,9,8],[12,11,10,9,8],[7,6,5,4,3,13,12,11,10,9,8],[2,1,0,14,7,6,5,4,3,13,12,11,10,9,8],[0,1,2,3,4,5,6,7,8,9,10,11,12,13,14,15],[16,0,1,2,3,4,5,6,7,8,9,10,11,12,13,14,15]] [1,2,3,4,5,6,8])) (qS 14000 [qm 52 8,qB 53 .add 52 1,qm 8 53] [1,2,3,4,5,6,8])))
def oj:ai:=(.seq (.seq (qS 21000 [qm 76 11,qB 77 .lss 76 5] [1,2,3,4,5,9,10,11,77]) (.cond (.t 77) .skip (.exit 8))) (.seq (.block 9 (.drawn 23000 [qm 80 11,qm 81 10,qD 82 .mul 2 81,qm 83 11,qD 84 .mul 3 83,qb 85 .add 82 84,qB 86 .rem 85 5,qD 87 .mul 5 86,qb 88 .add 80 87,qm 89 10,qm 90 11,qD 91 .mul 5 90,qb 92 .add 89 91,qX 93 25 1 1 92,ql 94 93,qm 95 10,qm 96 11,qD 97 .mul 5 96,qb 98 .add 95 97,qX 99 25 1 4 98,ql 100 99,qc 101 345 [94,100],qX 102 25 1 9 88,qu 1 102 101] [[],[],[1],[],[3],[2,1,4,3],[5,2,1,4,3],[6,5,2,1,4,3],[0,7,6,5,2,1,4,3],[],[],[10],[9,11,10],[12,9,11,10],[13,12,9,11,10],[],[],[16],[15,17,16],[18,15,17,16],[19,18,15,17,16],[14,13,12,9,11,10,20,19,18,15,17,16],[8,0,7,6,5,2,1,4,3,9,10,11,12,13,14,15,16,17,18,19,20,21],[22,8,0,7,6,5,2,1,4,3,9,10,11,12,13,14,15,16,17,18,19,20,21]] [1,2,3,4,5,9,10,11])) (qS 22000 [qm 78 11,qB 79 .add 78 1,qm 11 79] [1,2,3,4,5,9,10,11])))
def ox:ai:=(.seq (.seq (qS 18000 [qm 72 10,qB 73 .lss 72 5] [1,2,3,4,5,9,10,73]) (.cond (.t 73) .skip (.exit 6))) (.seq (.block 7 (.seq (qS 20000 [qi 11 0] [1,2,3,4,5,9,10,11]) (.block 8 (.loop (lR (.close [23021]) oj))))) (qS 19000 [qm 74 10,qB 75 .add 74 1,qm 10 75] [1,2,3,4,5,9,10])))
def ol:ai:=(.seq (.seq (qS 28000 [qm 107 13,qB 108 .lss 107 5] [1,2,3,4,5,9,12,13,108]) (.cond (.t 108) .skip (.exit 12))) (.seq (.block 13 (.drawn 30000 [qm 111 12,qm 112 13,qD 113 .mul 5 112,qb 114 .add 111 113,qm 115 12,qm 116 13,qD 117 .mul 5 116,qb 118 .add 115 117,qX 119 25 1 9 118,ql 120 119,qm 121 12,qB 122 .add 121 1,qB 123 .rem 122 5,qm 124 13,qD 125 .mul 5 124,qb 126 .add 123 125,qX 127 25 1 9 126,ql 128 127,qg 129 (.un .xor (.t 128)),qm 130 12,qB 131 .add 130 2,qB 132 .rem 131 5,qm 133 13,qD 134 .mul 5 133,qb 135 .add 132 134,qX 136 25 1 9 135,ql 137 136,qb 138 .and 129 137,qb 139 .xor 120 138,qX 140 25 1 1 114,qu 1 140 139] [[],[],[1],[0,2,1],[],[],[5],[4,6,5],[7,4,6,5],[8,7,4,6,5],[],[10],[11,10],[],[13],[12,11,10,14,13],[15,12,11,10,14,13],[16,15,12,11,10,14,13],[17,16,15,12,11,10,14,13],[],[19],[20,19],[],[22],[21,20,19,23,22],[24,21,20,19,23,22],[25,24,21,20,19,23,22],[18,17,16,15,12,11,10,14,13,26,25,24,21,20,19,23,22],[9,8,7,4,6,5,27,18,17,16,15,12,11,10,14,13,26,25,24,21,20,19,23,22],[3,0,2,1,4,5,6,7,8,9,10,11,12,13,14,15,16,17,18,19,20,21,22,23,24,25,26,27,28],[29,3,0,2,1,4,5,6,7,8,9,10,11,12,13,14,15,16,17,18,19,20,21,22,23,24,25,26,27,28]] [1,2,3,4,5,9,12,13])) (qS 29000 [qm 109 13,qB 110 .add 109 1,qm 13 110] [1,2,3,4,5,9,12,13])))
def nY:ai:=(.seq (.seq (qS 25000 [qm 103 12,qB 104 .lss 103 5] [1,2,3,4,5,9,12,104]) (.cond (.t 104) .skip (.exit 10))) (.seq (.block 11 (.seq (qS 27000 [qi 13 0] [1,2,3,4,5,9,12,13]) (.block 12 (.loop (lR (.close []) ol))))) (qS 26000 [qm 105 12,qB 106 .add 105 1,qm 12 106] [1,2,3,4,5,9,12])))
def pj:ai:=(.seq (.seq (qS 5000 [qm 16 5,qB 17 .lss 16 24] [1,2,3,4,5,17]) (.cond (.t 17) .skip (.exit 0))) (.seq (.block 1 (.seq (qS 7000 [qg 20 (.build (zar .u64 5) []),qg 6 (.alloc (zar .u64 5)),qu 5 6 20] [1,2,3,4,5,6]) (.seq (.seq (qS 8000 [qi 7 0] [1,2,3,4,5,6,7]) (.block 2 (.loop (lR (.close []) oK)))) (.seq (.seq (qS 12000 [qi 8 0] [1,2,3,4,5,6,8]) (.block 4 (.loop (lR (.close [15013]) oB)))) (.seq (qS 16000 [qg 71 (.build (zar .u64 25) []),qg 9 (.alloc (zar .u64 25)),qu 25 9 71] [1,2,3,4,5,9]) (.seq (.seq (qS 17000 [qi 10 0] [1,2,3,4,5,9,10]) (.block 6 (.loop (lR (.close [23021]) ox)))) (.seq (.seq (qS 24000 [qi 12 0] [1,2,3,4,5,9,12]) (.block 10 (.loop (lR (.close []) nY)))) (.drawn 31000 [qg 141 (.idxArr 25 1 (.t 1) (qI 0)),ql 142 141,qm 143 5,qX 144 24 1 3 143,ql 145 144,qb 146 .xor 142 145,qg 147 (.idxArr 25 1 (.t 1) (qI 0)),qu 1 147 146] [[],[0],[],[2],[3,2],[1,0,4,3,2],[0,1,2,3,4,5],[6,0,1,2,3,4,5]] [1,2,3,4,5])))))))) (qS 6000 [qm 18 5,qB 19 .add 18 1,qm 5 19] [1,2,3,4,5])))
def CO:ai:=(.seq (qS 1000 [qg 1 (.box 25 (.t 0)),qg 2 (.alloc (zar .u64 25))] [1,2]) (.seq (qS 2000 [qc 14 343 [],qg 3 (.alloc (zar .u64 24)),qu 24 3 14] [1,2,3]) (.seq (qS 3000 [qc 15 344 [],qg 4 (.alloc (zar .u64 25)),qu 25 4 15] [1,2,3,4]) (.seq (.seq (qS 4000 [qi 5 0] [1,2,3,4,5]) (.block 0 (.loop (lR (.close [7001,15013,16001,23021]) pj)))) (.seq (qS 32000 [qL 148 25 1,qu 25 2 148] [2]) .ret)))))
def oe:ae:=⟨149,CO,[.cell 2 (.some 25)],.false,.false⟩
theorem Mt:OkF 305 oe:=okq func305
def Cy:=cv (a:=gT f306 [[1,2],[1,2,5],[1,2,5,6],[1,2,5,6,10],[1,2,5,6],[1,2,5,6],[4]] [(.close [6011,6012])])
def vM:ae:=⟨28,mkC Cy.1,[.tmp 4],.false,.false⟩
def FU:=cv (a:=lp Cy.1 0)
def Gl:ai:=mkC FU.1
theorem Uu:OkF 306 vM:=okq func306
def pY:=cv (a:=gT f308 [[1],[1,3],[3,4],[3,4,5],[3,4,5,28],[3,4,5],[3,4,5,6],[3,4,5,6,46],[3,4,5,6,7],[3,4,5,6],[3,4,5,6],[3,4,5],[2]] [(.close [7006,11007,12007,12011]),(.close [11007,12007,12011])])
def pV:ae:=⟨73,mkC pY.1,[.tmp 2],.false,.false⟩
def Bb:=cv (a:=lp pY.1 0)
def Ba:ai:=mkC Bb.1
def AT:=cv (a:=lp pY.1 1)
def Ar:ai:=mkC AT.1
theorem NM:OkF 308 pV:=okq func308
def iS:=cv (a:=gT f310 [[0,1],[4]])
def cT:ae:=⟨9,mkC iS.1,[.tmp 4],.false,.false⟩
theorem oD:OkF 310 cT:=okq func310
def Fk:=cv (a:=gT f311 [[0,1],[3]])
def pN:ae:=⟨8,mkC Fk.1,[.tmp 3],.false,.false⟩
theorem Qv:OkF 311 pN:=okq func311
def xb:=cv (a:=gT f312 [[2,3,4],[2,7],[7,26,27,28],[7,26,27,28,29],[7,9,26,27,28],[7,26,27,28],[7,26,27,28],[6]] [(.close [6002])])
def qF:ae:=⟨37,mkC xb.1,[.tmp 6],.false,.false⟩
def Av:=cv (a:=lp xb.1 0)
def Ap:ai:=mkC Av.1
theorem Ns:OkF 312 qF:=okq func312
def LI:=cv (a:=gT f313 [])
def wi:ae:=⟨2,mkC LI.1,[],.false,.false⟩
theorem WN:OkF 313 wi:=okq func313
def KN:=cv (a:=gT f314 [[0,1,4],[1,4,6],[4],[4]])
def uV:ae:=⟨29,mkC KN.1,[.cell 4 (.some 2)],.false,.false⟩
theorem WO:OkF 314 uV:=okq func314
def ov:=cv (a:=gT f315 [[1,3,5],[3,5,7,8],[5,7,8,20,21],[5,7,8,20,21,22],[5,7,8,9,10,20,21],[5,7,8,9,20,21,25,26,27],[5,7,8,9,20,21,25,26,27,28],[5,7,8,9,12,20,21,25,26,27],[5,7,8,9,20,21,25,26,27],[5,7,8,9,20,21,25,26,27],[5,7,8,20,21],[6]] [(.close [8002,9016,9019,9020]),(.close [8002,9016,9019,9020])])
def o3:ae:=⟨56,mkC ov.1,[.tmp 6],.false,.false⟩
def Ky:=cv (a:=lp ov.1 0)
def a4G:ai:=mkC Ky.1
def li:=cv (a:=lp ov.1 1)
def g9:ai:=mkC li.1
theorem Ms:OkF 315 o3:=okq func315
def KP:=cv (a:=gT f316 [[3,4,5,6],[6]])
def uX:ae:=⟨14,mkC KP.1,[.cell 6 (.some 2)],.false,.false⟩
theorem VK:OkF 316 uX:=okq func316
def I2:=cv (a:=gT f317 [[1,2,3,6],[6]])
def sE:ae:=⟨17,mkC I2.1,[.cell 6 (.some 2)],.false,.false⟩
theorem SL:OkF 317 sE:=okq func317
def Dp:=cv (a:=gT f319 [[0],[0,4],[0,4,10],[2,3],[0,4,5],[0,4,5,15],[0,4,5],[0,4,5],[4,37],[2,3],[2,3]] [(.close [8006,8013,8015,8016])])
def vx:ae:=⟨40,mkC Dp.1,[.tmp 2,.tmp 3],.false,.false⟩
def FN:=cv (a:=lp Dp.1 0)
def G0:ai:=mkC FN.1
theorem Xl:OkF 319 vx:=okq func319
def Df:=cv (a:=gT f320 [[0],[0,3],[0,3,4],[0,3,4,6],[0,3,4],[0,3,4],[2]] [(.close [])])
def vn:ae:=⟨17,mkC Df.1,[.tmp 2],.false,.false⟩
def F5:=cv (a:=lp Df.1 0)
def Gs:ai:=mkC F5.1
theorem VH:OkF 320 vn:=okq func320
def s3:=cv (a:=gT f321 [[0,3],[0,3,5],[0,3,5,7,8],[0,3,5,7,8,9],[0,3,5,6,7,8],[0,3,5,7,8],[0,3,5,7,8],[4]] [(.close [])])
def mL:ae:=⟨38,mkC s3.1,[.tmp 4],.false,.false⟩
def vR:=cv (a:=lp s3.1 0)
def vI:ai:=mkC vR.1
theorem K8:OkF 321 mL:=okq func321
def sc:=cv (a:=gT f322 [[0,1],[0,1,5],[5],[4]])
def iD:ae:=⟨22,mkC sc.1,[.tmp 4],.false,.false⟩
theorem Cx:OkF 322 iD:=okq func322
def za:=cv (a:=gT f323 [[0],[0,4],[0,4,5],[0,4,5,11],[0,4,5],[0,4,5],[2,3]] [(.close [6006,6013,6015,6016])])
def tc:ae:=⟨40,mkC za.1,[.tmp 2,.tmp 3],.false,.false⟩
def Cn:=cv (a:=lp za.1 0)
def BC:ai:=mkC Cn.1
theorem Sl:OkF 323 tc:=okq func323
def AU:=cv (a:=gT f327 [[2,3],[4]])
def mP:ae:=⟨17,mkC AU.1,[.tmp 4],.false,.false⟩
theorem JX:OkF 327 mP:=okq func327
def BI:=cv (a:=gT f331 [[1,2,4],[4]])
def oo:ae:=⟨14,mkC BI.1,[.cell 4 (.some 2)],.false,.false⟩
theorem Mi:OkF 331 oo:=okq func331
def V7:=cv (a:=gT f332 [[0,1],[0,1,5],[0,1,5,7],[0,1,5,12],[0,1,5],[0,1,5],[0,1,5],[4]] [(.close [6002,7002])])
def N6:ae:=⟨20,mkC V7.1,[.tmp 4],.false,.false⟩
def Tu:=cv (a:=lp V7.1 0)
def Tf:ai:=mkC Tu.1
theorem b0X:OkF 332 N6:=okq func332
def AC:=cv (a:=gT f333 [[0],[2],[2]])
def n9:ae:=⟨8,mkC AC.1,[.tmp 2],.false,.false⟩
theorem Km:OkF 333 n9:=okq func333
def GS:=cv (a:=gT f334 [[0,1],[0,1,5],[0,1,5,7],[0,1,5,10],[0,1,5],[0,1,5],[0,1,5],[4]] [(.close [5002,6002])])
def zt:ae:=⟨20,mkC GS.1,[.tmp 4],.false,.false⟩
def HD:=cv (a:=lp GS.1 0)
def JA:ai:=mkC HD.1
theorem a03:OkF 334 zt:=okq func334
def Hr:=cv (a:=gT f336 [[0],[0,3],[3,6,7,8],[3,6,7,8,9],[3,5,6,7,8],[3,6,7,8],[3,6,7,8],[2]] [(.close [])])
def zY:ae:=⟨21,mkC Hr.1,[.tmp 2],.false,.false⟩
def Jm:=cv (a:=lp Hr.1 0)
def IS:ai:=mkC Jm.1
theorem Yc:OkF 336 zY:=okq func336
def KR:=cv (a:=gT f338 [[0],[2]])
def vq:ae:=⟨5,mkC KR.1,[.tmp 2],.false,.false⟩
theorem Wx:OkF 338 vq:=okq func338
def KM:=cv (a:=gT f340 [[0],[2]])
def vU:ae:=⟨6,mkC KM.1,[.tmp 2],.false,.false⟩
theorem WY:OkF 340 vU:=okq func340
def KF:=cv (a:=gT f341 [[0,1,2],[0,2,7],[0,7,14,15,16],[0,7,14,15,16,17],[0,7,8,9,14,15,16],[0,7,8,9,10,14,15,16],[0,7,9,10,14,15,16,30],[0,7,9,10,14,15,16],[0,7,14,15,16],[0,7,14,15,16],[6]] [(.close [6004,9003,9004,9005])])
def DH:ae:=⟨41,mkC KF.1,[.tmp 6],.false,.false⟩
def LB:=cv (a:=lp KF.1 0)
def LA:ai:=mkC LB.1
theorem a2o:OkF 341 DH:=okq func341
def Kt:=cv (a:=gT f342 [[0,1,2],[0,1,2,8],[0,2,8,9],[0,2,8,9,10],[0,2,8,9,10,20],[0,2,8,9,10,11],[0,2,8,9,10,11,32],[0,2,8,10,11],[0,2,8,10,11],[0,2,8,9,10],[0,2,8,9,10],[0,2,8,9,10],[6,7]] [(.close [10002,10003,11001])])
def DV:ae:=⟨50,mkC Kt.1,[.tmp 6,.tmp 7],.false,.false⟩
def Lg:=cv (a:=lp Kt.1 0)
def KO:ai:=mkC Lg.1
theorem a1y:OkF 342 DV:=okq func342
def Fi:ai:=(.seq (qS 1000 [qg 0 (.alloc (zar .u64 24))] [0]) (.seq (qS 2000 [qg 1 (.build (zar .u64 24) (WX .u64 0 [1,32898,9223372036854808714,9223372039002292224,32907,2147483649,9223372039002292353,9223372036854808585,138,136,2147516425,2147483658,2147516555,9223372036854775947,9223372036854808713,9223372036854808579,9223372036854808578,9223372036854775936,32778,9223372039002259466,9223372039002292353,9223372036854808704,2147483649,9223372039002292232])),qu 24 0 1] [0]) .ret))
def pM:ae:=⟨2,Fi,[.cell 0 (.some 24)],.false,.false⟩
theorem No:OkF 343 pM:=okq func343
def EB:ai:=(.seq (qS 1000 [qg 0 (.alloc (zar .u64 25))] [0]) (.seq (qS 2000 [qg 1 (.build (zar .u64 25) (WX .u64 0 [0,1,62,28,27,36,44,6,55,20,3,10,43,25,39,41,45,15,21,8,18,2,61,56,14])),qu 25 0 1] [0]) .ret))
def pK:ae:=⟨2,EB,[.cell 0 (.some 25)],.false,.false⟩
theorem Oh:OkF 344 pK:=okq func344
def Lc:=cv (a:=gT f345 [[0,1],[0,1,6],[4],[4]])
def uY:ae:=⟨16,mkC Lc.1,[.tmp 4],.false,.false⟩
theorem WU:OkF 345 uY:=okq func345
def fO:=cv (a:=gT f348 [[0,1],[0,1,7,8],[0,1,7,8,9],[0,1,5,7,8],[0,1,5,7,8,16],[4],[0,1,7,8],[4]] [(.close [5005])])
def dC:ae:=⟨19,mkC fO.1,[.tmp 4],.false,.false⟩
def jb:=cv (a:=lp fO.1 0)
def jc:ai:=mkC jb.1
theorem s4:OkF 348 dC:=okq func348
def gz:=cv (a:=gT f349 [[1],[1,3],[3,22,23],[3,22,23,24],[3,5,22,23],[3,5,22,23],[3,22,23,30,31,32],[3,22,23,30,31,32,33],[3,7,22,23,30,31,32],[3,22,23,30,31,32],[3,22,23,30,31,32],[3,22,23],[2]] [(.close [6003,9002,10007,10008,10011]),(.close [9002,10007,10008,10011])])
def gH:ae:=⟨51,mkC gz.1,[.tmp 2],.false,.false⟩
def xv:=cv (a:=lp gz.1 0)
def Tj:ai:=mkC xv.1
def fh:=cv (a:=lp gz.1 1)
def cF:ai:=mkC fh.1
theorem z5:OkF 349 gH:=okq func349
def PW:=cv (a:=gT f350 [[0],[0,3],[3,7,8,9],[3,7,8,9,10],[3,5,7,8,9],[3,7,8,9],[3,7,8,9],[2]] [(.close [6003,6004])])
def Jl:ae:=⟨20,mkC PW.1,[.tmp 2],.false,.false⟩
def Ot:=cv (a:=lp PW.1 0)
def Qi:ai:=mkC Ot.1
theorem a5L:OkF 350 Jl:=okq func350
def wd:=cv (a:=gT f351 [[1,2,3],[1,2,3,7],[1,2,3,7],[2,3,7],[7],[6]])
def ka:ae:=⟨25,mkC wd.1,[.tmp 6],.false,.false⟩
theorem Hb:OkF 351 ka:=okq func351
def A1:=cv (a:=gT f353 [[0],[0,3],[3,6,7,8],[3,6,7,8,9],[3,5,6,7,8],[3,5,6,7,8,14],[2],[3,6,7,8],[2]] [(.close [])])
def sP:ae:=⟨18,mkC A1.1,[.tmp 2],.false,.false⟩
def D3:=cv (a:=lp A1.1 0)
def Bw:ai:=mkC D3.1
theorem RV:OkF 353 sP:=okq func353
def vX:=cv (a:=gT f354 [[0,1],[0,1,5],[0,1,5,6],[0,1,6,11],[12],[4],[4],[0,1,13],[4],[0,1,16],[4],[19],[4],[4]])
def ke:ae:=⟨20,mkC vX.1,[.tmp 4],.false,.false⟩
theorem He:OkF 354 ke:=okq func354
def vz:=cv (a:=gT f356 [[0,2],[0,2,4],[0],[0,2],[0,2,8],[0,2],[0,2],[0,2,14],[0,2],[0,2],[2]])
def k8:ae:=⟨25,mkC vz.1,[.tmp 2],.false,.false⟩
theorem GB:OkF 356 k8:=okq func356
def A4:=cv (a:=gT f357 [[0],[2]])
def mO:ae:=⟨6,mkC A4.1,[.tmp 2],.false,.false⟩
theorem JN:OkF 357 mO:=okq func357
end Go.AI.Fn
