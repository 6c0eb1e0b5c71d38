/- Codes. -/
import Derived.Test.YtgjlndaebhaciaaTb0
set_option linter.unusedVariables false
set_option maxRecDepth 100000
set_option maxHeartbeats 2000000
namespace Go.AI.Fn
open Proofs.Try
def sn:=cv (a:=gT f4 [[0,1],[0,1,31],[4],[1,5],[5,6],[5,6,7,8],[5,6,7,8,9,10],[5,6,7,8,9,10,11,12],[5,6,7,8,9,10,11,12,13],[5,6,7,8,9,10,11,12,13,15,16,17],[5,6,7,8,9,10,11,12,13,15,16,17,18,19],[5,7,8,11,15,16,163],[4],[5,7,8,11,15,16,165],[4],[5,7,11,15,16,20,21],[5,7,15,16,21,22,23],[4]])
def a_w_FnCircuit:aG:=⟨223,mkC sn.1,[.tmp 4],.false,.false⟩
theorem xu:OkF 4 a_w_FnCircuit:=okq func4
def tw:=cv (a:=gT f8 [[1,2],[1,2,6],[2,3],[2,3]])
def l8:aG:=⟨10,mkC tw.1,[.cell 2 (.some 6),.tmp 3],.false,.false⟩
theorem zs:OkF 8 l8:=okq func8
def tK:=cv (a:=gT f10 [[1,2],[1,2,6],[2,3],[2,3]])
def lw:aG:=⟨10,mkC tK.1,[.cell 2 (.some 6),.tmp 3],.false,.false⟩
theorem yW:OkF 10 lw:=okq func10
def sf:=cv (a:=gT f16 [[0,2],[2]])
def jA:aG:=⟨6,mkC sf.1,[.cell 2 (.some 1)],.false,.false⟩
theorem xl:OkF 16 jA:=okq func16
def um:=cv (a:=gT f17 [[0,3,4],[4,5,6],[4]])
def lj:aG:=⟨17,mkC um.1,[.cell 4 (.some 2)],.false,.false⟩
theorem yS:OkF 17 lj:=okq func17
def pS:=cv (a:=gT f18 [[1,2,3],[1,2,3,8],[1,2,3,8,16],[6,7],[9,10],[9,26],[6,7],[6,7]])
def iI:aG:=⟨28,mkC pS.1,[.tmp 6,.tmp 7],.false,.false⟩
theorem w8:OkF 18 iI:=okq func18
def qd:=cv (a:=gT f19 [[1,2,3],[1,2,3,17],[6,7],[1,2,3,8],[1,2,3,8,24],[6,7],[3,9],[9,34],[6,7],[6,7]])
def iP:aG:=⟨37,mkC qd.1,[.tmp 6,.tmp 7],.false,.false⟩
theorem vZ:OkF 19 iP:=okq func19
def sy:=cv (a:=gT f20 [[1,2,3],[1,3,9,10],[1,3,9,10,19],[6,7,8],[6,7,8]])
def jz:aG:=⟨26,mkC sy.1,[.tmp 6,.tmp 7,.tmp 8],.false,.false⟩
theorem wG:OkF 20 jz:=okq func20
def vh:=cv (a:=gT f21 [[1,2],[1,2,6],[4,5],[1,2,10],[4,5],[4,5]])
def n7:aG:=⟨17,mkC vh.1,[.tmp 4,.tmp 5],.false,.false⟩
theorem BE:OkF 21 n7:=okq func21
def nr:=cv (a:=gT f22 [[1],[1,9],[2],[1,11,12,13],[1,11,12,13,14],[1,3,4,11,12,13],[1,11,12,13,21],[2],[1,11,12,13],[2]] [(.close [6003,7002])])
def jG:aG:=⟨26,mkC nr.1,[.tmp 2],.false,.false⟩
def p6:=cv (a:=lp nr.1 0)
def pq:aB:=mkC p6.1
theorem xA:OkF 22 jG:=okq func22
def oM:=cv (a:=gT f23 [[0,1],[0,1,10],[4],[0,1,5],[0,1,5,14],[0,1,5,25],[4],[0,1,5],[4]] [(.close [])])
def li:aG:=⟨26,mkC oM.1,[.tmp 4],.false,.false⟩
def pM:=cv (a:=lp oM.1 0)
def r9:aB:=mkC pM.1
theorem z7:OkF 23 li:=okq func23
def ot:=cv (a:=gT f24 [[1],[1,23],[2],[1,25,26],[1,25,26,27],[1,4,25,26],[1,25,26,37],[2],[1,25,26],[2]] [(.close [7007])])
def ln:aG:=⟨39,mkC ot.1,[.tmp 2],.false,.false⟩
def yq:=cv (a:=lp ot.1 0)
def Nu:aB:=mkC yq.1
theorem z6:OkF 24 ln:=okq func24
def kE:=cv (a:=gT f25 [[0,1],[0,1,10],[4],[0,1,5],[0,1,5,14],[0,1,5,25],[4],[0,1,5],[4]] [(.close [])])
def i9:aG:=⟨26,mkC kE.1,[.tmp 4],.false,.false⟩
def mZ:=cv (a:=lp kE.1 0)
def nf:aB:=mkC mZ.1
theorem v6:OkF 25 i9:=okq func25
def u6:=cv (a:=gT f26 [[1,2,3],[1,2,3,8],[6,7],[1,2,3,17],[6,7],[1,2,3,31],[6,7],[6,7]])
def lf:aG:=⟨48,mkC u6.1,[.tmp 6,.tmp 7],.false,.false⟩
theorem zx:OkF 26 lf:=okq func26
def si:=cv (a:=gT f27 [[1,2],[1,2,6],[1,2,6,11],[4,5],[4,5]])
def jC:aG:=⟨17,mkC si.1,[.tmp 4,.tmp 5],.false,.false⟩
theorem xn:OkF 27 jC:=okq func27
def nk:=cv (a:=gT f40 [[1],[1,8],[2],[1,3],[1,3,13],[1,3,23],[2],[1,3],[2]] [(.close [7006])])
def jD:aG:=⟨27,mkC nk.1,[.tmp 2],.false,.false⟩
def oY:=cv (a:=lp nk.1 0)
def pf:aB:=mkC oY.1
theorem wx:OkF 40 jD:=okq func40
def ju:=cv (a:=gT f41 [[1,2],[1,2,3,4],[1,2,3,5],[1,2,3,5,6],[1,2,3,5,6,7],[1,2,3,5,6,7,26],[1,2,3,5,6,7,8],[1,2,3,5,6,7,8,35],[1,2,3,5,6,7,8,35,36],[1,2,3,5,6,7,8,35,36],[1,2,3,5,6,7,8,35,39],[1,2,3,5,6,7,8],[1,2,3,5,6,7],[1,2,3,5,6,7,8,35,61],[1,2,3,5,6,7,8,35,61],[1,2,3,5,6,7,8],[1,2,3,5,6,7,8,9],[1,2,3,5,6,7,8,9,76],[1,2,3,5,6,7,8,9],[1,2,3,5,6,7],[1,2,3,5,6,7],[1,2,3,5,6,7,8,35,93],[1,2,3,5,6,7,8,97],[1,2,3,5,6,7],[1,2,3,5,6,7],[1,2,3,5,6,7,8,35,110],[1,2,3,5,6,7,8],[1,2,3,5,6,7,8],[1,2,3,5,6,7,8],[1,2,3,5,6,7,8],[1,2,3,5,6,7],[1,2,3,5,6,7],[1,2,3,5,6,7,8,153],[1,2,3,5,6,7,8],[1,2,3,5,6,7,8],[1,2,3,5,6,7,8],[1,2,3,5,6,7,8],[1,2,3,5,6,7],[1,2,3,5,6,7],[1,2,3,5,6,7],[1,2,3,5,6,7],[1,2,3,5,6,7],[2,5,6],[2,5,6,218],[2,5,6],[2]] [(.close [8005,13008,14008,17008,21009,22003,25005,26003,28008,29003,30007,32008,33003,35008,36008,37007,39008,40003,41007,3003,3004,3005]),(.close [])])
def jw:aG:=⟨224,mkC ju.1,[.cell 2 (.some 6)],.false,.false⟩
def pk:=cv (a:=lp ju.1 0)
def pj:aB:=mkC pk.1
def o4:=cv (a:=lp ju.1 1)
def o6:aB:=mkC o4.1
theorem wH:OkF 41 jw:=okq func41
def cO:=cv (a:=gT f43 [[1,2],[1,2,3],[1,2,3,4],[1,2,3,4,29],[1,2,3,4],[1,2,3,5,6,7],[1,2,3,5,6,7,38,39,40],[1,2,3,5,6,7,38,39,40,41],[1,2,3,5,6,7,9,38,39,40],[1,2,3,5,6,7,38,39,40,46],[1,2,3,5,6,7,38,39,40],[1,2,3,5,6,7,38,39,40],[1,2,3,5,6,7,38,39,40],[1,2,3,5,10],[2,3,5,10,66,67,68],[2,3,5,10,66,67,68,69],[2,3,5,10,11,12,66,67,68],[2,3,5,10,66,67,68],[2,3,5,10,66,67,68],[2,3,5,10,66,67,68,69,89],[2,3,5,10,66,67,68,69],[2,3],[2]] [(.close [4001]),(.close [9002,11002,11003,12002,12003]),(.close [17003,18007]),(.close [])])
def fh:aG:=⟨113,mkC cO.1,[.cell 2 (.some 6)],.false,.false⟩
def ke:=cv (a:=lp cO.1 0)
def jO:aB:=mkC ke.1
def jM:=cv (a:=lp cO.1 1)
def ky:aB:=mkC jM.1
def je:=cv (a:=lp cO.1 2)
def j3:aB:=mkC je.1
def jd:=cv (a:=lp cO.1 3)
def j9:aB:=mkC jd.1
theorem rC:OkF 43 fh:=okq func43
def rX:=cv (a:=gT f49 [[0],[2]])
def jt:aG:=⟨9,mkC rX.1,[.tmp 2],.true,.false⟩
theorem wO:OkF 49 jt:=okq func49
def io:=cv (a:=gT f50 [[0,2],[0,2,3],[0,2,3,4],[0,2,3,4,5],[0,2,3,4,5,14],[0,2,3,4,5,6],[0,2,3,4,5,6,26],[0,2,3,4,5,6],[0,2,3,4,5,6,38],[0,2,3,4,5,6],[0,2,3,4,5,6,42],[0,2,3,4,5,6,42,43],[0,2,3,4,5,6],[0,2,3,4,5,6],[0,2,3,4,5,6,60],[0,2,3,4,5,6],[0,2,3,4,5,6,64],[0,2,3,4,5,6],[0,2,3,4,5,6,72],[0,2,3,4,5,6],[0,2,3,4,5],[0,2,3,4,5],[2]] [(.close [7001,7004,8004,9001,10005,12002,14002,15002,16005,19002,21001,21002,21004,22003,22004])])
def fb:aG:=⟨88,mkC io.1,[.cell 2 (.some 1)],.false,.false⟩
def kn:=cv (a:=lp io.1 0)
def kh:aB:=mkC kn.1
theorem rB:OkF 50 fb:=okq func50
def fJ:=cv (a:=gT f51 [[0,3],[0,3,6],[0,3,6,7],[0,3,6,7,15],[0,3,6,7,8],[0,3,6,7,9],[0,3,6,7,9,26],[0,3,6,7,9,10],[0,3,6,7,9,10,32],[0,3,6,7,9,10],[0,3,6,7,9],[0,3,6,7,9],[0,3,6,7],[4,5]] [(.close [6000,7002,10001,11001,12001,13007,13008]),(.close [10001,11001,12001,13007,13008])])
def fK:aG:=⟨51,mkC fJ.1,[.tmp 4,.tmp 5],.false,.false⟩
def rO:=cv (a:=lp fJ.1 0)
def EA:aB:=mkC rO.1
def gM:=cv (a:=lp fJ.1 1)
def ei:aB:=mkC gM.1
theorem sW:OkF 51 fK:=okq func51
def vb:=cv (a:=gT f52 [[1,2,3],[1,2,3,7],[6],[1,2,3,16],[6],[1,2,3,20],[6],[29],[6],[6]])
def mG:aG:=⟨42,mkC vb.1,[.tmp 6],.false,.false⟩
theorem Bc:OkF 52 mG:=okq func52
def kA:=cv (a:=gT f53 [[1,2,3],[1,2,3,8],[1,2,8,14,15,16],[1,2,8,14,15,16,17],[1,2,8,10,14,15,16],[1,2,8,10,11,14,15,16],[1,2,8,10,11,14,15,16,23],[1,2,8,10,11,14,15,16,23,24],[1,2,8,11,14,15,16],[1,2,8,10,11,14,15,16,23,31],[1,2,8,11,14,15,16],[1,2,8,10,11,14,15,16,23,38],[1,2,8,11,14,15,16],[1,2,8,10,11,14,15,16,23,51],[1,2,8,11,14,15,16],[1,2,8,10,11,14,15,16,23,64],[1,2,8,11,14,15,16],[1,2,8,10,11,14,15,16,23,77],[1,2,8,10,11,14,15,16,77],[1,2,8,10,11,14,15,16],[1,2,8,11,14,15,16,105],[6,7],[1,2,8,14,15,16],[1,2,8,14,15,16],[6,7]] [(.close [5002,13010,15010,17010,23002,23003])])
def i7:aG:=⟨112,mkC kA.1,[.tmp 6,.tmp 7],.false,.false⟩
def mY:=cv (a:=lp kA.1 0)
def mE:aB:=mkC mY.1
theorem uJ:OkF 53 i7:=okq func53
def xd:=cv (a:=gT f54 [[1,2,3],[1,2,3,7],[6],[1,2,3,16],[6],[1,2,3,20],[6],[29],[6],[6]])
def oc:aG:=⟨42,mkC xd.1,[.tmp 6],.false,.false⟩
theorem Da:OkF 54 oc:=okq func54
def ta:=cv (a:=gT f55 [[1,2,3],[1,2,3,7],[1,2,3,7,8],[1,2,3,7,8,9],[1,2,3,7,8,9,10],[1,2,3,7,8,9,10,18],[1,2,3,7,8,9,10,11],[1,2,3,7,8,9,10,11],[1,2,3,7,8,9,10,11,27],[1,2,3,7,8,9,10,11,27,33],[1,2,3,7,8,9,10,12],[1,2,3,7,8,9,10,12],[1,2,3,7,8,9,10,11,27,41],[1,2,3,7,8,9,10,12],[1,2,3,7,8,9,10,12],[1,2,3,7,8,9,10,11,27,49],[1,2,3,7,8,9,10,12],[1,2,3,7,8,9,10,11,27,53],[1,2,3,7,8,9,10,12],[1,2,3,7,8,9,10,11,27,66],[1,2,3,7,8,9,10,12],[1,2,3,7,8,9,10,11,79],[1,2,3,7,8,9,10,12],[1,2,3,7,8,9,10,12],[1,2,3,7,8,9,10],[1,2,3,7,8,9,10],[6]] [(.close [8005,21010,23010,25010,26002,26003])])
def oD:aG:=⟨97,mkC ta.1,[.tmp 6],.false,.false⟩
def ua:=cv (a:=lp ta.1 0)
def ut:aB:=mkC ua.1
theorem CB:OkF 55 oD:=okq func55
def qO:=cv (a:=gT f56 [[1,2],[1,2,5],[1,2,5,11],[1,2,5,6],[1,2,5,47],[4],[1,2,5],[4]] [(.close [5005])])
def mM:aG:=⟨48,mkC qO.1,[.tmp 4],.false,.false⟩
def rR:=cv (a:=lp qO.1 0)
def sq:aB:=mkC rR.1
theorem C6:OkF 56 mM:=okq func56
def cZ:aB:=(.seq (qS 1000 [qg 2 (.mv (.c (.slice .none 0 0)))] [0]) (.seq (.seq (qS 2000 [qm 3 0,qg 4 (.isNil .false (.t 3))] [0,4]) (.cond (.t 4) (.seq (qS 3000 [qg 2 (.mv (.c (.slice .none 0 0)))] [2]) .ret) .skip)) (.seq (qS 4000 [qg 5 (.buildSlice 1 [(.int .i64 0)] 0 []),qm 6 0,qg 7 (.append 1 8 [(.int .i64 0)] (.t 5) (.t 6)),qm 2 7] [2]) .ret)))
def aU:aG:=⟨8,cZ,[.tmp 2],.false,.false⟩
theorem nI:OkF 57 aU:=okq func57
def iq:=cv (a:=gT f58 [[1,2],[1,2,5],[1,5,10,11,12],[1,5,10,11,12,13],[1,5,6,7,10,11,12],[1,5,6,10,11,12,19],[1,5,10,11,12],[1,5,10,11,12],[4]] [(.close [5003,7005,7006])])
def fk:aG:=⟨29,mkC iq.1,[.tmp 4],.false,.false⟩
def kj:=cv (a:=lp iq.1 0)
def kv:aB:=mkC kj.1
theorem rM:OkF 58 fk:=okq func58
def NZ:=cv (a:=gT f59 [[0,1,2],[6]])
def Ak:aG:=⟨15,mkC NZ.1,[.tmp 6],.false,.false⟩
theorem RG:OkF 59 Ak:=okq func59
def gL:=cv (a:=gT f60 [[1,2],[1,2,5],[1,5,9,10,11],[1,5,9,10,11,12],[1,5,7,9,10,11],[1,5,9,10,11,18],[1,5,9,10,11],[1,5,9,10,11],[4]] [(.close [5002])])
def eo:aG:=⟨23,mkC gL.1,[.tmp 4],.false,.false⟩
def j7:=cv (a:=lp gL.1 0)
def j6:aB:=mkC j7.1
theorem r6:OkF 60 eo:=okq func60
def xp:=cv (a:=gT f61 [[1,2],[1,2,5,6,7],[1,2,5,6,7,18],[1,2,5,6,7,18,19],[2,5,6,7],[1,2,5,6,7,18,24],[1,2,5,6,7,18,24],[1,2,5,6,7,18,24],[1,2,5,6,7,18,24],[2,5,6,7],[1,2,5,6,7,39],[2,5,6,7],[4]])
def oS:aG:=⟨58,mkC xp.1,[.tmp 4],.false,.false⟩
theorem Eg:OkF 61 oS:=okq func61
def pc:=cv (a:=gT f62 [[1],[2]])
def ia:aG:=⟨7,mkC pc.1,[.tmp 2],.false,.false⟩
theorem uz:OkF 62 ia:=okq func62
def kX:=cv (a:=gT f63 [[1,2],[2]])
def en:aG:=⟨10,mkC kX.1,[.cell 2 (.some 3)],.false,.false⟩
theorem pL:OkF 63 en:=okq func63
def oo:=cv (a:=gT f64 [[0,1,2],[0,1,2,9,10,11],[0,1,2,9,10,11,12],[0,1,2,7,8,9,10,11],[0,1,2,9,10,11,49],[6],[0,1,2,9,10,11],[6]] [(.close [4003,5004,5011,5017,5030])])
def lu:aG:=⟨54,mkC oo.1,[.tmp 6],.false,.false⟩
def qt:=cv (a:=lp oo.1 0)
def r8:aB:=mkC qt.1
theorem zh:OkF 64 lu:=okq func64
def v8:=cv (a:=gT f65 [[1,2],[4]])
def n8:aG:=⟨9,mkC v8.1,[.tmp 4],.false,.false⟩
theorem Bn:OkF 65 n8:=okq func65
def vx:=cv (a:=gT f66 [[0],[2]])
def mW:aG:=⟨5,mkC vx.1,[.tmp 2],.false,.false⟩
theorem B9:OkF 66 mW:=okq func66
def mV:=cv (a:=gT f67 [[1,2,3],[1,2,3,7],[1,2,3,7],[2,3,7],[7],[6]])
def fO:aG:=⟨25,mkC mV.1,[.tmp 6],.false,.false⟩
theorem sE:OkF 67 fO:=okq func67
def pt:=cv (a:=gT f68 [[1,2],[1,2,5],[4],[1,2,9],[4],[18],[4],[4]])
def i4:aG:=⟨25,mkC pt.1,[.tmp 4],.false,.false⟩
theorem uQ:OkF 68 i4:=okq func68
def iK:=cv (a:=gT f69 [[1,2],[5,6,7],[5,6,7,28,29],[5,6,7,28,29,30],[5,6,7,8,28,29],[5,6,7,8,28,29,45],[4],[5,6,7,28,29],[4]] [(.close [6008])])
def fP:aG:=⟨48,mkC iK.1,[.tmp 4],.false,.false⟩
def kL:=cv (a:=lp iK.1 0)
def kP:aB:=mkC kL.1
theorem sQ:OkF 69 fP:=okq func69
def GL:=cv (a:=gT f72 [[0,1],[4]])
def wi:aG:=⟨9,mkC GL.1,[.tmp 4],.false,.false⟩
theorem OF:OkF 72 wi:=okq func72
def zF:=cv (a:=gT f88 [[0,1,2],[6]])
def rn:aG:=⟨15,mkC zF.1,[.tmp 6],.false,.false⟩
theorem EF:OkF 88 rn:=okq func88
def vq:=cv (a:=gT f89 [[1,2],[1,2,9],[4],[1,2,5],[2,52],[4],[2,55],[4],[4]])
def mI:aG:=⟨62,mkC vq.1,[.tmp 4],.false,.false⟩
theorem Al:OkF 89 mI:=okq func89
def oL:=cv (a:=gT f90 [[1,2],[1,2,5],[1,2,5,6],[1,2,5,6,11],[1,2,5,6],[1,2,5,6],[4]] [(.close [6009])])
def lh:aG:=⟨26,mkC oL.1,[.tmp 4],.false,.false⟩
def pI:=cv (a:=lp oL.1 0)
def pY:aB:=mkC pI.1
theorem yZ:OkF 90 lh:=okq func90
def pX:=cv (a:=gT f91 [[1],[1,4],[1,4,5],[1,4,5,6],[1,4,5,6,7],[1,4,5,6,7,8],[1,4,5,6,7,8,9],[1,4,5,6,7,8,9,21],[1,4,5,6,7,8,9,30],[1,4,5,6,7,8,9],[1,4,5,6,7,8,9],[1,4,5,6,7,8,9],[1,4,5,6,7,8,9],[1,4,5,6,7,8,9],[2,3]] [(.close [12002,12003,13004,13005])])
def mK:aG:=⟨47,mkC pX.1,[.tmp 2,.tmp 3],.false,.false⟩
def s8:=cv (a:=lp pX.1 0)
def se:aB:=mkC s8.1
theorem Bx:OkF 91 mK:=okq func91
def ov:=cv (a:=gT f92 [[0,1,2,3],[0,1,2,3,9],[0,1,2,3,9,35],[0,1,2,3,9],[0,1,2,3,9,59],[0,1,2,9,10],[0,1,2,9,10,11],[0,1,2,9,10,11,75],[0,9,11],[8],[8]] [(.close [])])
def ll:aG:=⟨103,mkC ov.1,[.tmp 8],.false,.false⟩
def qJ:=cv (a:=lp ov.1 0)
def qQ:aB:=mkC qJ.1
theorem ze:OkF 92 ll:=okq func92
def pW:=cv (a:=gT f94 [[0,2,5,7],[0,2,5,7,8],[0,2,5,7,8,11],[0,2,5,7,8,11,12],[],[0,2,5,7,8,11,21],[],[0,2,5,7,8,11,35],[],[0,2,5,7,8,11,49],[],[0,2,5,7,8,11,63],[0,2,5,8],[],[0,2,5,7,8,79],[0,2,5,8],[]])
def iM:aG:=⟨100,mkC pW.1,[],.false,.false⟩
theorem vN:OkF 94 iM:=okq func94
def p9:=cv (a:=gT f98 [[0,1],[0,1,9],[4],[0,1,11],[4],[0,1,5],[0,1,5,6],[1,5,6,7],[4]])
def ib:aG:=⟨31,mkC p9.1,[.tmp 4],.false,.false⟩
theorem uE:OkF 98 ib:=okq func98
def mD:=cv (a:=gT f99 [[0,1],[4]])
def fM:aG:=⟨11,mkC mD.1,[.tmp 4],.false,.false⟩
theorem sM:OkF 99 fM:=okq func99
def vE:=cv (a:=gT f100 [[0],[0,3],[2],[6],[2],[2]])
def na:aG:=⟨9,mkC vE.1,[.tmp 2],.false,.false⟩
theorem Br:OkF 100 na:=okq func100
def jp:=cv (a:=gT f101 [[0],[0,6],[0,6,7],[2],[0,11],[2],[0,3],[0,3,4],[0,3,4,17],[0,3,4],[0,3,4],[2]] [(.close [11003])])
def gq:aG:=⟨27,mkC jp.1,[.tmp 2],.false,.false⟩
def lO:=cv (a:=lp jp.1 0)
def mf:aB:=mkC lO.1
theorem ui:OkF 101 gq:=okq func101
def Ht:=cv (a:=gT f102 [[0,1],[4]])
def wv:aG:=⟨10,mkC Ht.1,[.tmp 4],.false,.false⟩
theorem Nf:OkF 102 wv:=okq func102
def Ho:=cv (a:=gT f103 [[0,1],[4]])
def wl:aG:=⟨9,mkC Ho.1,[.tmp 4],.false,.false⟩
theorem Lg:OkF 103 wl:=okq func103
def nj:=cv (a:=gT f104 [[0],[0,3],[0,3,7],[0,3,15],[2],[0,3],[2]] [(.close [5004])])
def js:aG:=⟨16,mkC nj.1,[.tmp 2],.false,.false⟩
def ph:=cv (a:=lp nj.1 0)
def pw:aB:=mkC ph.1
theorem wT:OkF 104 js:=okq func104
def xx:=cv (a:=gT f105 [[0,1],[4]])
def og:aG:=⟨9,mkC xx.1,[.tmp 4],.false,.false⟩
theorem DT:OkF 105 og:=okq func105
def yE:=cv (a:=gT f106 [[0,1],[4]])
def oH:aG:=⟨10,mkC yE.1,[.tmp 4],.false,.false⟩
theorem Dz:OkF 106 oH:=okq func106
def yj:=cv (a:=gT f107 [[0,1],[4]])
def oF:aG:=⟨9,mkC yj.1,[.tmp 4],.false,.false⟩
theorem Cm:OkF 107 oF:=okq func107
def fw:=cv (a:=gT f108 [[2,3],[4]])
def cc:aG:=⟨17,mkC fw.1,[.tmp 4],.false,.false⟩
theorem jj:OkF 108 cc:=okq func108
def ew:=cv (a:=gT f109 [[0,1],[4]])
def bP:aG:=⟨9,mkC ew.1,[.tmp 4],.false,.false⟩
theorem j2:OkF 109 bP:=okq func109
def so:=cv (a:=gT f110 [[0,1],[3]])
def jF:aG:=⟨8,mkC so.1,[.tmp 3],.false,.false⟩
theorem wy:OkF 110 jF:=okq func110
def pO:=cv (a:=gT f111 [[0,1,2],[0,2,7],[2,7,13,14,15],[2,7,13,14,15,16],[2,7,9,13,14,15],[2,7,13,14,15],[2,7,13,14,15],[6]] [(.close [5002,6015,6016])])
def mH:aG:=⟨39,mkC pO.1,[.tmp 6],.false,.false⟩
def sh:=cv (a:=lp pO.1 0)
def s7:aB:=mkC sh.1
theorem C0:OkF 111 mH:=okq func111
def vw:=cv (a:=gT f130 [[0],[2]])
def mL:aG:=⟨5,mkC vw.1,[.tmp 2],.false,.false⟩
theorem AB:OkF 130 mL:=okq func130
def xB:=cv (a:=gT f131 [[0],[3],[2],[2]])
def oq:aG:=⟨4,mkC xB.1,[.tmp 2],.false,.false⟩
theorem CA:OkF 131 oq:=okq func131
def sD:=cv (a:=gT f132 [[1],[1,3],[3,4],[3,4,5],[3,4,5,21],[3,4,5],[2]] [(.close [])])
def oh:aG:=⟨25,mkC sD.1,[.tmp 2],.false,.false⟩
def ur:=cv (a:=lp sD.1 0)
def tB:aB:=mkC ur.1
theorem D7:OkF 132 oh:=okq func132
def o0:=cv (a:=gT f133 [[0,1,2],[5]])
def gw:aG:=⟨13,mkC o0.1,[.tmp 5],.true,.false⟩
theorem tZ:OkF 133 gw:=okq func133
def nl:=cv (a:=gT f134 [[0,2,3,11,12,13],[0,2,3,11,12,13,14],[0,2,3,9,11,12,13],[0,2,3,9,10,11,12,13],[0,2,3,11,12,13],[0,2,3,11,12,13],[0],[]] [(.close [3002,4007,5013])])
def jv:aG:=⟨70,mkC nl.1,[],.false,.false⟩
def pp:=cv (a:=lp nl.1 0)
def pl:aB:=mkC pp.1
theorem xF:OkF 134 jv:=okq func134
def oV:=cv (a:=gT f136 [[0],[0],[0,19],[0],[2],[0,59],[2],[0],[2]])
def hZ:aG:=⟨76,mkC oV.1,[.tmp 2],.false,.false⟩
theorem uH:OkF 136 hZ:=okq func136
def fe:=cv (a:=gT f137 [[0],[0,3],[3,6,7,8],[3,6,7,8,9],[3,5,6,7,8],[3,5,6,7,8,14],[2],[3,6,7,8],[2]] [(.close [])])
def dl:aG:=⟨18,mkC fe.1,[.tmp 2],.false,.false⟩
def fX:=cv (a:=lp fe.1 0)
def fR:aB:=mkC fX.1
theorem nG:OkF 137 dl:=okq func137
def dM:=cv (a:=gT f138 [[0,1],[0,1,5],[0,1,5,6],[0,1,6,11],[12],[4],[4],[0,1,13],[4],[0,1,16],[4],[19],[4],[4]])
def bF:aG:=⟨20,mkC dM.1,[.tmp 4],.false,.false⟩
theorem ip:OkF 138 bF:=okq func138
def dh:=cv (a:=gT f139 [[0,1],[0,1,7,8],[0,1,7,8,9],[0,1,5,7,8],[0,1,5,7,8,16],[4],[0,1,7,8],[4]] [(.close [5005])])
def ct:aG:=⟨19,mkC dh.1,[.tmp 4],.false,.false⟩
def eZ:=cv (a:=lp dh.1 0)
def eW:aB:=mkC eZ.1
theorem kC:OkF 139 ct:=okq func139
def fC:=cv (a:=gT f152 [[0],[2]])
def cf:aG:=⟨6,mkC fC.1,[.tmp 2],.false,.false⟩
theorem jm:OkF 152 cf:=okq func152
end Go.AI.Fn
