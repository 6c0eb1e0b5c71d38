/- Codes. -/
import Derived.Test.YtgjlndaebhaciaaTb0
set_option linter.unusedVariables false
set_option maxRecDepth 100000
set_option maxHeartbeats 2000000
namespace Go.AI.Fn
open Proofs.Try
def sJ:=cv (a:=gT f5 [[0,1],[0,1,30],[4],[1,5],[1,5,6,7],[1,5,6,7,8,9,10],[1,5,6,8,9,67],[4],[1,5,6,8,9,11],[1,5,6,8,9,11,12],[1,5,6,8,9,11,12,13],[1,5,6,8,9,11,12,13,74],[1,5,6,8,9,11,12,13,14],[1,5,6,8,9,11,12,13,14,85],[1,5,6,8,9,11,12,13,87],[1,5,6,8,9,11,12,13],[1,5,6,8,9,11,12,13],[1,5,6,8,9,11,12,13],[1,6,8,9,11,96],[4],[1,6,8,9,15],[1,6,8,15,16],[6,8,15,16,17,18],[6,8,16,18],[6,18,19,20],[18,20,21,22],[4]] [(.close [17002,17003])])
def a_w_FnBinds:aC:=⟨149,mkC sJ.1,[.tmp 4],.false,.false⟩
def s9:=cv (a:=lp sJ.1 0)
def rL:au:=mkC s9.1
theorem CP:OkF 5 a_w_FnBinds:=okq func5
def vc:=cv (a:=gT f10 [[1,2],[1,2,6],[2,3],[2,3]])
def mH:aC:=⟨10,mkC vc.1,[.cell 2 (.some 6),.tmp 3],.false,.false⟩
theorem AA:OkF 10 mH:=okq func10
def rJ:=cv (a:=gT f18 [[1,2,3],[1,2,3,8],[1,2,3,8,16],[6,7],[9,10],[9,26],[6,7],[6,7]])
def j9:aC:=⟨28,mkC rJ.1,[.tmp 6,.tmp 7],.false,.false⟩
theorem xZ:OkF 18 j9:=okq func18
def u4:=cv (a:=gT f20 [[1,2,3],[1,3,9,10],[1,3,9,10,19],[6,7,8],[6,7,8]])
def kx:aC:=⟨26,mkC u4.1,[.tmp 6,.tmp 7,.tmp 8],.false,.false⟩
theorem yE:OkF 20 kx:=okq func20
def oD:=cv (a:=gT f22 [[1],[1,9],[2],[1,11,12,13],[1,11,12,13,14],[1,3,4,11,12,13],[1,11,12,13,21],[2],[1,11,12,13],[2]] [(.close [6003,7002])])
def kq:aC:=⟨26,mkC oD.1,[.tmp 2],.false,.false⟩
def qM:=cv (a:=lp oD.1 0)
def qU:au:=mkC qM.1
theorem zC:OkF 22 kq:=okq func22
def qy:=cv (a:=gT f24 [[1],[1,23],[2],[1,25,26],[1,25,26,27],[1,4,25,26],[1,25,26,37],[2],[1,25,26],[2]] [(.close [7007])])
def mG:aC:=⟨39,mkC qy.1,[.tmp 2],.false,.false⟩
def zR:=cv (a:=lp qy.1 0)
def Py:au:=mkC zR.1
theorem AN:OkF 24 mG:=okq func24
def vf:=cv (a:=gT f26 [[1,2,3],[1,2,3,8],[6,7],[1,2,3,17],[6,7],[1,2,3,31],[6,7],[6,7]])
def mh:aC:=⟨48,mkC vf.1,[.tmp 6,.tmp 7],.false,.false⟩
theorem AS:OkF 26 mh:=okq func26
def tW:=cv (a:=gT f27 [[1,2],[1,2,6],[1,2,6,11],[4,5],[4,5]])
def kz:aC:=⟨17,mkC tW.1,[.tmp 4,.tmp 5],.false,.false⟩
theorem yw:OkF 27 kz:=okq func27
def vT:=cv (a:=gT f28 [[0,2],[2,3,4,5,6,7],[2]])
def mI:aC:=⟨23,mkC vT.1,[.cell 2 (.some 10)],.false,.false⟩
theorem AG:OkF 28 mI:=okq func28
def OI:=cv (a:=gT f29 [[0,1,2],[0,1,2,8],[6],[0,1,2,11],[6],[6]])
def CW:aC:=⟨42,mkC OI.1,[.tmp 6],.false,.false⟩
theorem UV:OkF 29 CW:=okq func29
def JB:=cv (a:=gT f30 [[0,1],[4,5]])
def yq:aC:=⟨11,mkC JB.1,[.tmp 4,.tmp 5],.false,.false⟩
theorem Qw:OkF 30 yq:=okq func30
def cX:=cv (a:=gT f43 [[1,2],[1,2,3],[1,2,3,4],[1,2,3,4,29],[1,2,3,4],[1,2,3,5,6,7],[1,2,3,5,6,7,38,39,40],[1,2,3,5,6,7,38,39,40,41],[1,2,3,5,6,7,9,38,39,40],[1,2,3,5,6,7,38,39,40,46],[1,2,3,5,6,7,38,39,40],[1,2,3,5,6,7,38,39,40],[1,2,3,5,6,7,38,39,40],[1,2,3,5,10],[2,3,5,10,66,67,68],[2,3,5,10,66,67,68,69],[2,3,5,10,11,12,66,67,68],[2,3,5,10,66,67,68],[2,3,5,10,66,67,68],[2,3,5,10,66,67,68,69,89],[2,3,5,10,66,67,68,69],[2,3],[2]] [(.close [4001]),(.close [9002,11002,11003,12002,12003]),(.close [17003,18007]),(.close [])])
def fG:aC:=⟨113,mkC cX.1,[.cell 2 (.some 6)],.false,.false⟩
def kK:=cv (a:=lp cX.1 0)
def kY:au:=mkC kK.1
def ly:=cv (a:=lp cX.1 1)
def kL:au:=mkC ly.1
def jC:=cv (a:=lp cX.1 2)
def jF:au:=mkC jC.1
def jL:=cv (a:=lp cX.1 3)
def jE:au:=mkC jL.1
theorem to:OkF 43 fG:=okq func43
def tK:=cv (a:=gT f49 [[0],[2]])
def kA:aC:=⟨9,mkC tK.1,[.tmp 2],.true,.false⟩
theorem Ah:OkF 49 kA:=okq func49
def iP:=cv (a:=gT f50 [[0,2],[0,2,3],[0,2,3,4],[0,2,3,4,5],[0,2,3,4,5,14],[0,2,3,4,5,6],[0,2,3,4,5,6,26],[0,2,3,4,5,6],[0,2,3,4,5,6,38],[0,2,3,4,5,6],[0,2,3,4,5,6,42],[0,2,3,4,5,6,42,43],[0,2,3,4,5,6],[0,2,3,4,5,6],[0,2,3,4,5,6,60],[0,2,3,4,5,6],[0,2,3,4,5,6,64],[0,2,3,4,5,6],[0,2,3,4,5,6,72],[0,2,3,4,5,6],[0,2,3,4,5],[0,2,3,4,5],[2]] [(.close [7001,7004,8004,9001,10005,12002,14002,15002,16005,19002,21001,21002,21004,22003,22004])])
def fF:aC:=⟨88,mkC iP.1,[.cell 2 (.some 1)],.false,.false⟩
def lD:=cv (a:=lp iP.1 0)
def l0:au:=mkC lD.1
theorem tq:OkF 50 fF:=okq func50
def ge:=cv (a:=gT f51 [[0,3],[0,3,6],[0,3,6,7],[0,3,6,7,15],[0,3,6,7,8],[0,3,6,7,9],[0,3,6,7,9,26],[0,3,6,7,9,10],[0,3,6,7,9,10,32],[0,3,6,7,9,10],[0,3,6,7,9],[0,3,6,7,9],[0,3,6,7],[4,5]] [(.close [6000,7002,10001,11001,12001,13007,13008]),(.close [10001,11001,12001,13007,13008])])
def gk:aC:=⟨51,mkC ge.1,[.tmp 4,.tmp 5],.false,.false⟩
def tl:=cv (a:=lp ge.1 0)
def Gu:au:=mkC tl.1
def i8:=cv (a:=lp ge.1 1)
def eP:au:=mkC i8.1
theorem uD:OkF 51 gk:=okq func51
def xy:=cv (a:=gT f52 [[1,2,3],[1,2,3,7],[6],[1,2,3,16],[6],[1,2,3,20],[6],[29],[6],[6]])
def o3:aC:=⟨42,mkC xy.1,[.tmp 6],.false,.false⟩
theorem DQ:OkF 52 o3:=okq func52
def lM:=cv (a:=gT f53 [[1,2,3],[1,2,3,8],[1,2,8,14,15,16],[1,2,8,14,15,16,17],[1,2,8,10,14,15,16],[1,2,8,10,11,14,15,16],[1,2,8,10,11,14,15,16,23],[1,2,8,10,11,14,15,16,23,24],[1,2,8,11,14,15,16],[1,2,8,10,11,14,15,16,23,31],[1,2,8,11,14,15,16],[1,2,8,10,11,14,15,16,23,38],[1,2,8,11,14,15,16],[1,2,8,10,11,14,15,16,23,51],[1,2,8,11,14,15,16],[1,2,8,10,11,14,15,16,23,64],[1,2,8,11,14,15,16],[1,2,8,10,11,14,15,16,23,77],[1,2,8,10,11,14,15,16,77],[1,2,8,10,11,14,15,16],[1,2,8,11,14,15,16,105],[6,7],[1,2,8,14,15,16],[1,2,8,14,15,16],[6,7]] [(.close [5002,13010,15010,17010,23002,23003])])
def iz:aC:=⟨112,mkC lM.1,[.tmp 6,.tmp 7],.false,.false⟩
def oj:=cv (a:=lp lM.1 0)
def ol:au:=mkC oj.1
theorem wL:OkF 53 iz:=okq func53
def uC:=cv (a:=gT f55 [[1,2,3],[1,2,3,7],[1,2,3,7,8],[1,2,3,7,8,9],[1,2,3,7,8,9,10],[1,2,3,7,8,9,10,18],[1,2,3,7,8,9,10,11],[1,2,3,7,8,9,10,11],[1,2,3,7,8,9,10,11,27],[1,2,3,7,8,9,10,11,27,33],[1,2,3,7,8,9,10,12],[1,2,3,7,8,9,10,12],[1,2,3,7,8,9,10,11,27,41],[1,2,3,7,8,9,10,12],[1,2,3,7,8,9,10,12],[1,2,3,7,8,9,10,11,27,49],[1,2,3,7,8,9,10,12],[1,2,3,7,8,9,10,11,27,53],[1,2,3,7,8,9,10,12],[1,2,3,7,8,9,10,11,27,66],[1,2,3,7,8,9,10,12],[1,2,3,7,8,9,10,11,79],[1,2,3,7,8,9,10,12],[1,2,3,7,8,9,10,12],[1,2,3,7,8,9,10],[1,2,3,7,8,9,10],[6]] [(.close [8005,21010,23010,25010,26002,26003])])
def pS:aC:=⟨97,mkC uC.1,[.tmp 6],.false,.false⟩
def vx:=cv (a:=lp uC.1 0)
def vj:au:=mkC vx.1
theorem El:OkF 55 pS:=okq func55
def sr:=cv (a:=gT f56 [[1,2],[1,2,5],[1,2,5,11],[1,2,5,6],[1,2,5,47],[4],[1,2,5],[4]] [(.close [5005])])
def ob:aC:=⟨48,mkC sr.1,[.tmp 4],.false,.false⟩
def uk:=cv (a:=lp sr.1 0)
def tZ:au:=mkC uk.1
theorem CX:OkF 56 ob:=okq func56
def dh:au:=(.seq (qS 1000 [qg 2 (.mv (.c (.slice .none 0 0)))] [0]) (.seq (.seq (qS 2000 [qm 3 0,qg 4 (.isNil .false (.t 3))] [0,4]) (.cond (.t 4) (.seq (qS 3000 [qg 2 (.mv (.c (.slice .none 0 0)))] [2]) .ret) .skip)) (.seq (qS 4000 [qg 5 (.buildSlice 1 [(.int .i64 0)] 0 []),qm 6 0,qg 7 (.append 1 8 [(.int .i64 0)] (.t 5) (.t 6)),qm 2 7] [2]) .ret)))
def aS:aC:=⟨8,dh,[.tmp 2],.false,.false⟩
theorem oB:OkF 57 aS:=okq func57
def iL:=cv (a:=gT f58 [[1,2],[1,2,5],[1,5,10,11,12],[1,5,10,11,12,13],[1,5,6,7,10,11,12],[1,5,6,10,11,12,19],[1,5,10,11,12],[1,5,10,11,12],[4]] [(.close [5003,7005,7006])])
def fB:aC:=⟨29,mkC iL.1,[.tmp 4],.false,.false⟩
def lh:=cv (a:=lp iL.1 0)
def kS:au:=mkC lh.1
theorem tu:OkF 58 fB:=okq func58
def Q7:=cv (a:=gT f59 [[0,1,2],[6]])
def Cr:aC:=⟨15,mkC Q7.1,[.tmp 6],.false,.false⟩
theorem Sq:OkF 59 Cr:=okq func59
def ij:=cv (a:=gT f60 [[1,2],[1,2,5],[1,5,9,10,11],[1,5,9,10,11,12],[1,5,7,9,10,11],[1,5,9,10,11,18],[1,5,9,10,11],[1,5,9,10,11],[4]] [(.close [5002])])
def eO:aC:=⟨23,mkC ij.1,[.tmp 4],.false,.false⟩
def jJ:=cv (a:=lp ij.1 0)
def jI:au:=mkC jJ.1
theorem sy:OkF 60 eO:=okq func60
def yW:=cv (a:=gT f61 [[1,2],[1,2,5,6,7],[1,2,5,6,7,18],[1,2,5,6,7,18,19],[2,5,6,7],[1,2,5,6,7,18,24],[1,2,5,6,7,18,24],[1,2,5,6,7,18,24],[1,2,5,6,7,18,24],[2,5,6,7],[1,2,5,6,7,39],[2,5,6,7],[4]])
def pM:aC:=⟨58,mkC yW.1,[.tmp 4],.false,.false⟩
theorem EO:OkF 61 pM:=okq func61
def rn:=cv (a:=gT f62 [[1],[2]])
def iA:aC:=⟨7,mkC rn.1,[.tmp 2],.false,.false⟩
theorem wR:OkF 62 iA:=okq func62
def mf:=cv (a:=gT f63 [[1,2],[2]])
def eK:aC:=⟨10,mkC mf.1,[.cell 2 (.some 3)],.false,.false⟩
theorem sG:OkF 63 eK:=okq func63
def pV:=cv (a:=gT f64 [[0,1,2],[0,1,2,9,10,11],[0,1,2,9,10,11,12],[0,1,2,7,8,9,10,11],[0,1,2,9,10,11,49],[6],[0,1,2,9,10,11],[6]] [(.close [4003,5004,5011,5017,5030])])
def mD:aC:=⟨54,mkC pV.1,[.tmp 6],.false,.false⟩
def sq:=cv (a:=lp pV.1 0)
def rF:au:=mkC sq.1
theorem B4:OkF 64 mD:=okq func64
def xj:=cv (a:=gT f65 [[1,2],[4]])
def o8:aC:=⟨9,mkC xj.1,[.tmp 4],.false,.false⟩
theorem CG:OkF 65 o8:=okq func65
def xA:=cv (a:=gT f66 [[0],[2]])
def o4:aC:=⟨5,mkC xA.1,[.tmp 2],.false,.false⟩
theorem Cc:OkF 66 o4:=okq func66
def og:=cv (a:=gT f67 [[1,2,3],[1,2,3,7],[1,2,3,7],[2,3,7],[7],[6]])
def gc:aC:=⟨25,mkC og.1,[.tmp 6],.false,.false⟩
theorem uV:OkF 67 gc:=okq func67
def rk:=cv (a:=gT f68 [[1,2],[1,2,5],[4],[1,2,9],[4],[18],[4],[4]])
def iF:aC:=⟨25,mkC rk.1,[.tmp 4],.false,.false⟩
theorem xb:OkF 68 iF:=okq func68
def jA:=cv (a:=gT f69 [[1,2],[5,6,7],[5,6,7,28,29],[5,6,7,28,29,30],[5,6,7,8,28,29],[5,6,7,8,28,29,45],[4],[5,6,7,28,29],[4]] [(.close [6008])])
def gi:aC:=⟨48,mkC jA.1,[.tmp 4],.false,.false⟩
def lQ:=cv (a:=lp jA.1 0)
def lT:au:=mkC lQ.1
theorem uH:OkF 69 gi:=okq func69
def nV:=cv (a:=gT f70 [[0,2,5,6],[0,2,5,6,7],[0,2,5,6,7,8,9],[0,2,5,6,7,8,9,24],[0,2,5,6,7],[0,2,5,6,7,8],[0,2,5,6,7,8,9],[2,3,4,5,6]])
def gt:aC:=⟨44,mkC nV.1,[.cell 2 (.some 1),.tmp 3,.tmp 4,.cell 5 (.some 3),.cell 6 (.some 4)],.false,.false⟩
theorem uq:OkF 70 gt:=okq func70
def Jh:=cv (a:=gT f71 [[0,1,2],[0,1,2,15],[6,7],[6,7]])
def ym:aC:=⟨20,mkC Jh.1,[.tmp 6,.tmp 7],.false,.false⟩
theorem Oj:OkF 71 ym:=okq func71
def J7:=cv (a:=gT f72 [[0,1],[4]])
def ya:aC:=⟨9,mkC J7.1,[.tmp 4],.false,.false⟩
theorem PQ:OkF 72 ya:=okq func72
def lO:=cv (a:=gT f73 [[0,1],[0,1,5],[0,1,5,6],[0,1,5,6,10],[0,1,5,6],[0,1,5,6],[4]] [(.close [6002,6003,6004])])
def iE:aC:=⟨19,mkC lO.1,[.tmp 4],.false,.false⟩
def nQ:=cv (a:=lp lO.1 0)
def oo:au:=mkC nQ.1
theorem wO:OkF 73 iE:=okq func73
def BG:=cv (a:=gT f88 [[0,1,2],[6]])
def sU:aC:=⟨15,mkC BG.1,[.tmp 6],.false,.false⟩
theorem GR:OkF 88 sU:=okq func88
def pX:=cv (a:=gT f90 [[1,2],[1,2,5],[1,2,5,6],[1,2,5,6,11],[1,2,5,6],[1,2,5,6],[4]] [(.close [6009])])
def mj:aC:=⟨26,mkC pX.1,[.tmp 4],.false,.false⟩
def sI:=cv (a:=lp pX.1 0)
def sv:au:=mkC sI.1
theorem B2:OkF 90 mj:=okq func90
def sB:=cv (a:=gT f94 [[0,2,5,7],[0,2,5,7,8],[0,2,5,7,8,11],[0,2,5,7,8,11,12],[],[0,2,5,7,8,11,21],[],[0,2,5,7,8,11,35],[],[0,2,5,7,8,11,49],[],[0,2,5,7,8,11,63],[0,2,5,8],[],[0,2,5,7,8,79],[0,2,5,8],[]])
def jh:aC:=⟨100,mkC sB.1,[],.false,.false⟩
theorem y6:OkF 94 jh:=okq func94
def qN:=cv (a:=gT f98 [[0,1],[0,1,9],[4],[0,1,11],[4],[0,1,5],[0,1,5,6],[1,5,6,7],[4]])
def iI:aC:=⟨31,mkC qN.1,[.tmp 4],.false,.false⟩
theorem wq:OkF 98 iI:=okq func98
def oe:=cv (a:=gT f99 [[0,1],[4]])
def gp:aC:=⟨11,mkC oe.1,[.tmp 4],.false,.false⟩
theorem uo:OkF 99 gp:=okq func99
def xG:=cv (a:=gT f100 [[0],[0,3],[2],[6],[2],[2]])
def ot:aC:=⟨9,mkC xG.1,[.tmp 2],.false,.false⟩
theorem DB:OkF 100 ot:=okq func100
def jS:=cv (a:=gT f101 [[0],[0,6],[0,6,7],[2],[0,11],[2],[0,3],[0,3,4],[0,3,4,17],[0,3,4],[0,3,4],[2]] [(.close [11003])])
def i5:aC:=⟨27,mkC jS.1,[.tmp 2],.false,.false⟩
def np:=cv (a:=lp jS.1 0)
def mU:au:=mkC np.1
theorem vw:OkF 101 i5:=okq func101
def J4:=cv (a:=gT f102 [[0,1],[4]])
def yi:aC:=⟨10,mkC J4.1,[.tmp 4],.false,.false⟩
theorem PH:OkF 102 yi:=okq func102
def IY:=cv (a:=gT f103 [[0,1],[4]])
def yr:aC:=⟨9,mkC IY.1,[.tmp 4],.false,.false⟩
theorem Pw:OkF 103 yr:=okq func103
def zW:=cv (a:=gT f105 [[0,1],[4]])
def pQ:aC:=⟨9,mkC zW.1,[.tmp 4],.false,.false⟩
theorem Fm:OkF 105 pQ:=okq func105
def A7:=cv (a:=gT f106 [[0,1],[4]])
def qF:aC:=⟨10,mkC A7.1,[.tmp 4],.false,.false⟩
theorem EU:OkF 106 qF:=okq func106
def A8:=cv (a:=gT f107 [[0,1],[4]])
def pY:aC:=⟨9,mkC A8.1,[.tmp 4],.false,.false⟩
theorem EE:OkF 107 pY:=okq func107
def fN:=cv (a:=gT f108 [[2,3],[4]])
def cr:aC:=⟨17,mkC fN.1,[.tmp 4],.false,.false⟩
theorem kf:OkF 108 cr:=okq func108
def fj:=cv (a:=gT f109 [[0,1],[4]])
def bY:aC:=⟨9,mkC fj.1,[.tmp 4],.false,.false⟩
theorem jB:OkF 109 bY:=okq func109
def uc:=cv (a:=gT f110 [[0,1],[3]])
def ko:aC:=⟨8,mkC uc.1,[.tmp 3],.false,.false⟩
theorem zB:OkF 110 ko:=okq func110
def rM:=cv (a:=gT f111 [[0,1,2],[0,2,7],[2,7,13,14,15],[2,7,13,14,15,16],[2,7,9,13,14,15],[2,7,13,14,15],[2,7,13,14,15],[6]] [(.close [5002,6015,6016])])
def nU:aC:=⟨39,mkC rM.1,[.tmp 6],.false,.false⟩
def uh:=cv (a:=lp rM.1 0)
def tQ:au:=mkC uh.1
theorem Dd:OkF 111 nU:=okq func111
def nG:=cv (a:=gT f112 [[0,2],[2]])
def fA:aC:=⟨12,mkC nG.1,[.cell 2 (.some 3)],.false,.false⟩
theorem tn:OkF 112 fA:=okq func112
def jy:=cv (a:=gT f113 [[0,2],[0,2,3],[0,2,3,11],[0,2,3],[0,2,3,4],[0,2,3,4,21],[0,2,3,4,25],[0,2,3,4],[0,2,3,4],[0,2,3,4],[2]] [(.close [8001,9002,9003,9004,10001])])
def gr:aC:=⟨38,mkC jy.1,[.cell 2 (.some 4)],.false,.false⟩
def ig:=cv (a:=lp jy.1 0)
def eQ:au:=mkC ig.1
theorem uU:OkF 113 gr:=okq func113
def se:=cv (a:=gT f114 [[0,2],[0,2,4],[2],[2]])
def jl:aC:=⟨13,mkC se.1,[.cell 2 (.some 2)],.false,.false⟩
theorem xW:OkF 114 jl:=okq func114
def Am:=cv (a:=gT f131 [[0],[3],[2],[2]])
def pU:aC:=⟨4,mkC Am.1,[.tmp 2],.false,.false⟩
theorem EA:OkF 131 pU:=okq func131
def oY:=cv (a:=gT f133 [[0,1,2],[5]])
def i4:aC:=⟨13,mkC oY.1,[.tmp 5],.true,.false⟩
theorem vY:OkF 133 i4:=okq func133
def oH:=cv (a:=gT f134 [[0,2,3,11,12,13],[0,2,3,11,12,13,14],[0,2,3,9,11,12,13],[0,2,3,9,10,11,12,13],[0,2,3,11,12,13],[0,2,3,11,12,13],[0],[]] [(.close [3002,4007,5013])])
def ku:aC:=⟨70,mkC oH.1,[],.false,.false⟩
def rd:=cv (a:=lp oH.1 0)
def qZ:au:=mkC rd.1
theorem zy:OkF 134 ku:=okq func134
def re:=cv (a:=gT f136 [[0],[0],[0,19],[0],[2],[0,59],[2],[0],[2]])
def iD:aC:=⟨76,mkC re.1,[.tmp 2],.false,.false⟩
theorem wY:OkF 136 iD:=okq func136
def fH:=cv (a:=gT f137 [[0],[0,3],[3,6,7,8],[3,6,7,8,9],[3,5,6,7,8],[3,5,6,7,8,14],[2],[3,6,7,8],[2]] [(.close [])])
def dx:aC:=⟨18,mkC fH.1,[.tmp 2],.false,.false⟩
def gG:=cv (a:=lp fH.1 0)
def gN:au:=mkC gG.1
theorem oA:OkF 137 dx:=okq func137
def dY:=cv (a:=gT f138 [[0,1],[0,1,5],[0,1,5,6],[0,1,6,11],[12],[4],[4],[0,1,13],[4],[0,1,16],[4],[19],[4],[4]])
def bM:aC:=⟨20,mkC dY.1,[.tmp 4],.false,.false⟩
theorem iN:OkF 138 bM:=okq func138
def du:=cv (a:=gT f139 [[0,1],[0,1,7,8],[0,1,7,8,9],[0,1,5,7,8],[0,1,5,7,8,16],[4],[0,1,7,8],[4]] [(.close [5005])])
def cE:aC:=⟨19,mkC du.1,[.tmp 4],.false,.false⟩
def fq:=cv (a:=lp du.1 0)
def fu:au:=mkC fq.1
theorem lJ:OkF 139 cE:=okq func139
def yA:=cv (a:=gT f140 [[0,1,4],[4]])
def pW:aC:=⟨10,mkC yA.1,[.cell 4 (.some 4)],.false,.false⟩
theorem Ec:OkF 140 pW:=okq func140
def rf:=cv (a:=gT f141 [[0,1],[0,1,7],[4],[4]])
def iB:aC:=⟨15,mkC rf.1,[.tmp 4],.false,.false⟩
theorem wv:OkF 141 iB:=okq func141
def u7:=cv (a:=gT f142 [[1,2,4],[2,4],[2,4],[4]])
def kG:aC:=⟨19,mkC u7.1,[.cell 4 (.some 4)],.false,.false⟩
theorem zm:OkF 142 kG:=okq func142
def xD:=cv (a:=gT f143 [[1,2,3],[1,2,3,9],[1,2,3,4],[1,2,3,4],[2,3],[1,2,3,5],[1,2,3,5],[2,3]])
def o7:aC:=⟨47,mkC xD.1,[.cell 2 (.some 4),.cell 3 (.some 2)],.false,.false⟩
theorem Cv:OkF 143 o7:=okq func143
def zZ:=cv (a:=gT f144 [[1,2],[1,2],[2]])
def qh:aC:=⟨9,mkC zZ.1,[.cell 2 (.some 4)],.false,.false⟩
theorem FM:OkF 144 qh:=okq func144
def fS:=cv (a:=gT f152 [[0],[2]])
def cx:aC:=⟨6,mkC fS.1,[.tmp 2],.false,.false⟩
theorem ke:OkF 152 cx:=okq func152
def oO:au:=(.seq (.seq (qS 3000 [qm 12 3,qn 13 12,qB 14 .rem 13 136,qB 15 .neq 14 0] [3,15]) (.cond (.t 15) .skip (.exit 0))) (.block 1 (qS 4000 [qm 16 3,qg 17 (.buildSlice 1 [(.int .u8 0)] 1 [(0,(.c (.int .u8 0)))]),qg 18 (.append 1 1 [(.int .u8 0)] (.t 16) (.t 17)),qm 3 18] [3])))
def nl:au:=(.seq (.seq (qS 12000 [qm 41 7,qB 42 .lss 41 25] [3,4,5,6,7,42]) (.cond (.t 42) .skip (.exit 4))) (.seq (.block 5 (.drawn 14000 [qm 45 7,qX 46 25 1 4 45,ql 47 46,qm 48 7,qX 49 25 1 6 48,ql 50 49,qb 51 .xor 47 50,qX 52 25 1 4 45,qu 1 52 51] [[],[0],[1,0],[],[3],[4,3],[2,1,0,5,4,3],[0,1,2,3,4,5,6],[7,0,1,2,3,4,5,6]] [3,4,5,6,7])) (qS 13000 [qm 43 7,qB 44 .add 43 1,qm 7 44] [3,4,5,6,7])))
def oK:au:=(.seq (.seq (qS 8000 [qm 28 5,qm 29 3,qn 30 29,qb 31 .lss 28 30] [3,4,5,31]) (.cond (.t 31) .skip (.exit 2))) (.seq (.block 3 (.seq (qS 10000 [qm 34 3,qm 35 5,qm 36 5,qB 37 .add 36 136,qg 38 (.slice 1 (.t 34) (.some (.t 35)) (.some (.t 37)) .none),qg 39 (.toStr (.t 38)),qc 40 166 [39],qg 6 (.alloc (zar .u64 25)),qu 25 6 40] [3,4,5,6]) (.seq (.seq (qS 11000 [qi 7 0] [3,4,5,6,7]) (.block 4 (.loop (mZ (.close []) nl)))) (qS 15000 [qL 53 25 4,qc 54 167 [53],qu 25 4 54] [3,4,5])))) (qS 9000 [qm 32 5,qB 33 .add 32 136,qm 5 33] [3,4,5])))
def xu:au:=(.seq (qS 1000 [qg 2 (.mv (.c (.string ⟨⟨[]⟩⟩)))] [0]) (.seq (qS 2000 [qm 8 0,qg 9 (.toBytes (.t 8)),qg 10 (.buildSlice 1 [(.int .u8 0)] 1 [(0,(.c (.int .u8 1)))]),qg 11 (.append 1 1 [(.int .u8 0)] (.t 9) (.t 10)),qm 3 11] [3]) (.seq (.block 0 (.loop (mZ (.close [4001,4002]) oO))) (.seq (qS 5000 [qm 19 3,qm 20 3,qn 21 20,qB 22 .sub 21 1,qx 23 1 19 22,ql 24 23,qg 25 (.bin .or (.t 24) (.c (.int .u8 128))),qx 26 1 19 22,qu 1 26 25] [3]) (.seq (qS 6000 [qg 27 (.build (zar .u64 25) []),qg 4 (.alloc (zar .u64 25)),qu 25 4 27] [3,4]) (.seq (.seq (qS 7000 [qi 5 0] [3,4,5]) (.block 2 (.loop (mZ (.close [10006,10007,15001,2001]) oK)))) (.seq (qS 16000 [qL 55 25 4,qg 56 (.call 168 [(.t 55),(qI 32)]),qm 2 56] [2]) .ret)))))))
def nR:aC:=⟨57,xu,[.tmp 2],.false,.false⟩
theorem Dn:OkF 153 nR:=okq func153
def oT:=cv (a:=gT f154 [[0,1],[0,1,5],[0,5,6],[0,5,6,11],[0,5,6],[0,5,6],[4]] [(.close [6007,6008])])
def kE:aC:=⟨24,mkC oT.1,[.tmp 4],.false,.false⟩
def qO:=cv (a:=lp oT.1 0)
def qP:au:=mkC qO.1
theorem zt:OkF 154 kE:=okq func154
def pN:=cv (a:=gT f155 [[0],[0,3],[0,3,4],[0,3,4,6],[0,3,4],[0,3,4],[2]] [(.close [])])
def ms:aC:=⟨18,mkC pN.1,[.tmp 2],.false,.false⟩
def sh:=cv (a:=lp pN.1 0)
def so:au:=mkC sh.1
theorem AP:OkF 155 ms:=okq func155
def nH:au:=(.seq (.seq (qS 4000 [qm 6 4,qm 7 0,qg 8 (.len .true (.t 7)),qb 9 .lss 6 8] [0,2,3,4,9]) (.cond (.t 9) .skip (.exit 0))) (.seq (.block 1 (.drawn 6000 [qm 12 4,qB 13 .quo 12 8,qX 14 25 1 3 13,ql 15 14,qm 16 0,qm 17 4,qg 18 (.ixStr (.t 16) (.t 17)),qg 19 (.toInt .u64 (.t 18)),qm 20 4,qB 21 .rem 20 8,qD 22 .mul 8 21,qg 23 (.toInt .u64 (.t 22)),qb 24 .shl 19 23,qb 25 .or 15 24,qX 26 25 1 3 13,qu 1 26 25] [[],[0],[1,0],[2,1,0],[],[],[4,5],[6,4,5],[],[8],[9,8],[10,9,8],[7,6,4,5,11,10,9,8],[3,2,1,0,12,7,6,4,5,11,10,9,8],[1,0,2,3,4,5,6,7,8,9,10,11,12,13],[14,1,0,2,3,4,5,6,7,8,9,10,11,12,13]] [0,2,3,4])) (qS 5000 [qm 10 4,qB 11 .add 10 1,qm 4 11] [0,2,3,4])))
def w9:au:=(.seq (qS 1000 [qg 2 (.alloc (zar .u64 25))] [0,2]) (.seq (qS 2000 [qg 5 (.build (zar .u64 25) []),qg 3 (.alloc (zar .u64 25)),qu 25 3 5] [0,2,3]) (.seq (.seq (qS 3000 [qi 4 0] [0,2,3,4]) (.block 0 (.loop (mZ (.close []) nH)))) (.seq (qS 7000 [qL 27 25 3,qu 25 2 27] [2]) .ret))))
def mr:aC:=⟨28,w9,[.cell 2 (.some 25)],.false,.false⟩
theorem AX:OkF 166 mr:=okq func166
def k8:au:=(.seq (.seq (qS 9000 [qm 21 7,qB 22 .lss 21 5] [1,2,3,4,5,6,7,22]) (.cond (.t 22) .skip (.exit 2))) (.seq (.block 3 (.drawn 11000 [qm 25 7,qm 26 7,qX 27 25 1 1 26,ql 28 27,qm 29 7,qB 30 .add 29 5,qX 31 25 1 1 30,ql 32 31,qb 33 .xor 28 32,qm 34 7,qB 35 .add 34 10,qX 36 25 1 1 35,ql 37 36,qb 38 .xor 33 37,qm 39 7,qB 40 .add 39 15,qX 41 25 1 1 40,ql 42 41,qb 43 .xor 38 42,qm 44 7,qB 45 .add 44 20,qX 46 25 1 1 45,ql 47 46,qb 48 .xor 43 47,qX 49 5 1 6 25,qu 1 49 48] [[],[],[1],[2,1],[],[4],[5,4],[6,5,4],[3,2,1,7,6,5,4],[],[9],[10,9],[11,10,9],[8,3,2,1,7,6,5,4,12,11,10,9],[],[14],[15,14],[16,15,14],[13,8,3,2,1,7,6,5,4,12,11,10,9,17,16,15,14],[],[19],[20,19],[21,20,19],[18,13,8,3,2,1,7,6,5,4,12,11,10,9,17,16,15,14,22,21,20,19],[0,1,2,3,4,5,6,7,8,9,10,11,12,13,14,15,16,17,18,19,20,21,22,23],[24,0,1,2,3,4,5,6,7,8,9,10,11,12,13,14,15,16,17,18,19,20,21,22,23]] [1,2,3,4,5,6,7])) (qS 10000 [qm 23 7,qB 24 .add 23 1,qm 7 24] [1,2,3,4,5,6,7])))
def jn:au:=(.seq (.seq (qS 13000 [qm 50 8,qB 51 .lss 50 25] [1,2,3,4,5,6,8,51]) (.cond (.t 51) .skip (.exit 4))) (.seq (.block 5 (.drawn 15000 [qm 54 8,qX 55 25 1 1 54,ql 56 55,qm 57 8,qB 58 .add 57 4,qB 59 .rem 58 5,qX 60 5 1 6 59,ql 61 60,qm 62 8,qB 63 .add 62 1,qB 64 .rem 63 5,qX 65 5 1 6 64,ql 66 65,qg 67 (.call 176 [(.t 66),(.c (.int .u64 1))]),qb 68 .xor 61 67,qb 69 .xor 56 68,qX 70 25 1 1 54,qu 1 70 69] [[],[0],[1,0],[],[3],[4,3],[5,4,3],[6,5,4,3],[],[8],[9,8],[10,9,8],[11,10,9,8],[12,11,10,9,8],[7,6,5,4,3,13,12,11,10,9,8],[2,1,0,14,7,6,5,4,3,13,12,11,10,9,8],[0,1,2,3,4,5,6,7,8,9,10,11,12,13,14,15],[16,0,1,2,3,4,5,6,7,8,9,10,11,12,13,14,15]] [1,2,3,4,5,6,8])) (qS 14000 [qm 52 8,qB 53 .add 52 1,qm 8 53] [1,2,3,4,5,6,8])))
def j8:au:=(.seq (.seq (qS 21000 [qm 76 11,qB 77 .lss 76 5] [1,2,3,4,5,9,10,11,77]) (.cond (.t 77) .skip (.exit 8))) (.seq (.block 9 (.drawn 23000 [qm 80 11,qm 81 10,qD 82 .mul 2 81,qm 83 11,qD 84 .mul 3 83,qb 85 .add 82 84,qB 86 .rem 85 5,qD 87 .mul 5 86,qb 88 .add 80 87,qm 89 10,qm 90 11,qD 91 .mul 5 90,qb 92 .add 89 91,qX 93 25 1 1 92,ql 94 93,qm 95 10,qm 96 11,qD 97 .mul 5 96,qb 98 .add 95 97,qX 99 25 1 4 98,ql 100 99,qc 101 176 [94,100],qX 102 25 1 9 88,qu 1 102 101] [[],[],[1],[],[3],[2,1,4,3],[5,2,1,4,3],[6,5,2,1,4,3],[0,7,6,5,2,1,4,3],[],[],[10],[9,11,10],[12,9,11,10],[13,12,9,11,10],[],[],[16],[15,17,16],[18,15,17,16],[19,18,15,17,16],[14,13,12,9,11,10,20,19,18,15,17,16],[8,0,7,6,5,2,1,4,3,9,10,11,12,13,14,15,16,17,18,19,20,21],[22,8,0,7,6,5,2,1,4,3,9,10,11,12,13,14,15,16,17,18,19,20,21]] [1,2,3,4,5,9,10,11])) (qS 22000 [qm 78 11,qB 79 .add 78 1,qm 11 79] [1,2,3,4,5,9,10,11])))
def jx:au:=(.seq (.seq (qS 18000 [qm 72 10,qB 73 .lss 72 5] [1,2,3,4,5,9,10,73]) (.cond (.t 73) .skip (.exit 6))) (.seq (.block 7 (.seq (qS 20000 [qi 11 0] [1,2,3,4,5,9,10,11]) (.block 8 (.loop (mZ (.close [23021]) j8))))) (qS 19000 [qm 74 10,qB 75 .add 74 1,qm 10 75] [1,2,3,4,5,9,10])))
def js:au:=(.seq (.seq (qS 28000 [qm 107 13,qB 108 .lss 107 5] [1,2,3,4,5,9,12,13,108]) (.cond (.t 108) .skip (.exit 12))) (.seq (.block 13 (.drawn 30000 [qm 111 12,qm 112 13,qD 113 .mul 5 112,qb 114 .add 111 113,qm 115 12,qm 116 13,qD 117 .mul 5 116,qb 118 .add 115 117,qX 119 25 1 9 118,ql 120 119,qm 121 12,qB 122 .add 121 1,qB 123 .rem 122 5,qm 124 13,qD 125 .mul 5 124,qb 126 .add 123 125,qX 127 25 1 9 126,ql 128 127,qg 129 (.un .xor (.t 128)),qm 130 12,qB 131 .add 130 2,qB 132 .rem 131 5,qm 133 13,qD 134 .mul 5 133,qb 135 .add 132 134,qX 136 25 1 9 135,ql 137 136,qb 138 .and 129 137,qb 139 .xor 120 138,qX 140 25 1 1 114,qu 1 140 139] [[],[],[1],[0,2,1],[],[],[5],[4,6,5],[7,4,6,5],[8,7,4,6,5],[],[10],[11,10],[],[13],[12,11,10,14,13],[15,12,11,10,14,13],[16,15,12,11,10,14,13],[17,16,15,12,11,10,14,13],[],[19],[20,19],[],[22],[21,20,19,23,22],[24,21,20,19,23,22],[25,24,21,20,19,23,22],[18,17,16,15,12,11,10,14,13,26,25,24,21,20,19,23,22],[9,8,7,4,6,5,27,18,17,16,15,12,11,10,14,13,26,25,24,21,20,19,23,22],[3,0,2,1,4,5,6,7,8,9,10,11,12,13,14,15,16,17,18,19,20,21,22,23,24,25,26,27,28],[29,3,0,2,1,4,5,6,7,8,9,10,11,12,13,14,15,16,17,18,19,20,21,22,23,24,25,26,27,28]] [1,2,3,4,5,9,12,13])) (qS 29000 [qm 109 13,qB 110 .add 109 1,qm 13 110] [1,2,3,4,5,9,12,13])))
def jd:au:=(.seq (.seq (qS 25000 [qm 103 12,qB 104 .lss 103 5] [1,2,3,4,5,9,12,104]) (.cond (.t 104) .skip (.exit 10))) (.seq (.block 11 (.seq (qS 27000 [qi 13 0] [1,2,3,4,5,9,12,13]) (.block 12 (.loop (mZ (.close []) js))))) (qS 26000 [qm 105 12,qB 106 .add 105 1,qm 12 106] [1,2,3,4,5,9,12])))
def km:au:=(.seq (.seq (qS 5000 [qm 16 5,qB 17 .lss 16 24] [1,2,3,4,5,17]) (.cond (.t 17) .skip (.exit 0))) (.seq (.block 1 (.seq (qS 7000 [qg 20 (.build (zar .u64 5) []),qg 6 (.alloc (zar .u64 5)),qu 5 6 20] [1,2,3,4,5,6]) (.seq (.seq (qS 8000 [qi 7 0] [1,2,3,4,5,6,7]) (.block 2 (.loop (mZ (.close []) k8)))) (.seq (.seq (qS 12000 [qi 8 0] [1,2,3,4,5,6,8]) (.block 4 (.loop (mZ (.close [15013]) jn)))) (.seq (qS 16000 [qg 71 (.build (zar .u64 25) []),qg 9 (.alloc (zar .u64 25)),qu 25 9 71] [1,2,3,4,5,9]) (.seq (.seq (qS 17000 [qi 10 0] [1,2,3,4,5,9,10]) (.block 6 (.loop (mZ (.close [23021]) jx)))) (.seq (.seq (qS 24000 [qi 12 0] [1,2,3,4,5,9,12]) (.block 10 (.loop (mZ (.close []) jd)))) (.drawn 31000 [qg 141 (.idxArr 25 1 (.t 1) (qI 0)),ql 142 141,qm 143 5,qX 144 24 1 3 143,ql 145 144,qb 146 .xor 142 145,qg 147 (.idxArr 25 1 (.t 1) (qI 0)),qu 1 147 146] [[],[0],[],[2],[3,2],[1,0,4,3,2],[0,1,2,3,4,5],[6,0,1,2,3,4,5]] [1,2,3,4,5])))))))) (qS 6000 [qm 18 5,qB 19 .add 18 1,qm 5 19] [1,2,3,4,5])))
def rO:au:=(.seq (qS 1000 [qg 1 (.box 25 (.t 0)),qg 2 (.alloc (zar .u64 25))] [1,2]) (.seq (qS 2000 [qc 14 174 [],qg 3 (.alloc (zar .u64 24)),qu 24 3 14] [1,2,3]) (.seq (qS 3000 [qc 15 175 [],qg 4 (.alloc (zar .u64 25)),qu 25 4 15] [1,2,3,4]) (.seq (.seq (qS 4000 [qi 5 0] [1,2,3,4,5]) (.block 0 (.loop (mZ (.close [7001,15013,16001,23021]) km)))) (.seq (qS 32000 [qL 148 25 1,qu 25 2 148] [2]) .ret)))))
def jr:aC:=⟨149,rO,[.cell 2 (.some 25)],.false,.false⟩
theorem xY:OkF 167 jr:=okq func167
def sH:=cv (a:=gT f168 [[1,2],[1,2,5],[1,2,5,6],[1,2,5,6,10],[1,2,5,6],[1,2,5,6],[4]] [(.close [6011,6012])])
def nS:aC:=⟨28,mkC sH.1,[.tmp 4],.false,.false⟩
def tY:=cv (a:=lp sH.1 0)
def ug:au:=mkC tY.1
theorem Do:OkF 168 nS:=okq func168
def ue:au:=(.seq (qS 1000 [qg 0 (.alloc (zar .u64 24))] [0]) (.seq (qS 2000 [qg 1 (.build (zar .u64 24) (yP .u64 0 [1,32898,9223372036854808714,9223372039002292224,32907,2147483649,9223372039002292353,9223372036854808585,138,136,2147516425,2147483658,2147516555,9223372036854775947,9223372036854808713,9223372036854808579,9223372036854808578,9223372036854775936,32778,9223372039002259466,9223372039002292353,9223372036854808704,2147483649,9223372039002292232])),qu 24 0 1] [0]) .ret))
def kB:aC:=⟨2,ue,[.cell 0 (.some 24)],.false,.false⟩
theorem Ag:OkF 174 kB:=okq func174
def tX:au:=(.seq (qS 1000 [qg 0 (.alloc (zar .u64 25))] [0]) (.seq (qS 2000 [qg 1 (.build (zar .u64 25) (yP .u64 0 [0,1,62,28,27,36,44,6,55,20,3,10,43,25,39,41,45,15,21,8,18,2,61,56,14])),qu 25 0 1] [0]) .ret))
def ky:aC:=⟨2,tX,[.cell 0 (.some 25)],.false,.false⟩
theorem yQ:OkF 175 ky:=okq func175
def xM:=cv (a:=gT f176 [[0,1],[0,1,6],[4],[4]])
def oq:aC:=⟨16,mkC xM.1,[.tmp 4],.false,.false⟩
theorem Dj:OkF 176 oq:=okq func176
end Go.AI.Fn
