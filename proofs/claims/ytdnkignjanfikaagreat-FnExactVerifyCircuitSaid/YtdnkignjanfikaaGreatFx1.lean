/- Walks through the program, with open values. -/
import Derived.Test.YtdnkignjanfikaaGreatFx0
set_option linter.unusedVariables false
set_option linter.unusedSimpArgs false
set_option maxRecDepth 100000
set_option maxHeartbeats 1000000
namespace Go.AI.Fn
noncomputable section
open IntKind (wrap)
section
theorem a9X:mkR 2012 []=rws eU8 []:=rfl
attribute [local go_sem] a9X
def G2 (n:Int):Option ((List UInt8)):=
 br (cP (([(UInt8.ofInt (bY .i64 n 24)),(UInt8.ofInt (bY .i64 n 16)),(UInt8.ofInt (bY .i64 n 8)),(UInt8.ofInt n)]:List UInt8).length) 1) (
 some ([(UInt8.ofInt (bY .i64 n 24)),(UInt8.ofInt (bY .i64 n 16)),(UInt8.ofInt (bY .i64 n 8)),(UInt8.ofInt n)]:List UInt8)) none
theorem L1 {n r} (h:G2 n=some r):Call tab ow 225 [.lit (.slice none 0 0),I n] []=some (sl eU8 r,[]):=by
 rw [aj (af:=C5) rfl]
 unfold G2 at h
 simp only [C5,Sy]
 exact go2
end
section
theorem JR:mkR 1007 []=rws eU8 []:=rfl
attribute [local go_sem] JR
theorem Kw:mkR 1013 []=rws (eL eU8) []:=rfl
attribute [local go_sem] Kw
def fQ (t:(List UInt8)) (m:Source):Option (Source):=
 br (cP m.State.length 1) (
 (G2 ((t.length:Nat):Int)).bind fun b=>
 (sX ([m.State,([(97:UInt8),(98:UInt8),(115:UInt8),(111:UInt8),(114:UInt8),(98:UInt8)]:List UInt8),b,t]:List (List UInt8))).bind fun a=>
 some (Source.mk m.Script m.At a 0)) none
theorem nO {t m r} (h:fQ t m=some r):Call tab ow 221 [.ptr 0 0 0 1,sl eU8 t] [⟨4,true,[[sl eExt m.Script,I m.At,S m.State,I m.Count]]⟩]=some (.tup [],[⟨4,true,[[sl eExt r.Script,I r.At,S r.State,I r.Count]]⟩]):=by
 rw [aj (af:=nQ) rfl]
 unfold fQ at h
 simp only [nQ,AG]
 have d1:= @L1
 have d2:= @zt
 exact go2
end
def iw (a b:Ext):Option (Ext):=
 (RT a.A b.A).bind fun d=>
 (RT a.B b.B).bind fun c=>
 some (Ext.mk d c)
theorem nm {a b r} (h:iw a b=some r):Call tab ow 198 [.agg [I a.A,I a.B],.agg [I b.A,I b.B]] []=some (.agg [I r.A,I r.B],[]):=by
 rw [aj (af:=uJ) rfl]
 unfold iw at h
 simp only [uJ,Ju]
 have d1:= @a90
 exact go2
def wF (x:Int):Option (Int):=
 br (decide (x>=4294967296)) (
 br (decide ((bY .u64 x 32)>=65536)) (
 br (decide ((bY .u64 (bY .u64 x 32) 16)>=256)) (
 (atL (([0,1,2,2,3,3,3,3,4,4,4,4,4,4,4,4,5,5,5,5,5,5,5,5,5,5,5,5,5,5,5,5,6,6,6,6,6,6,6,6,6,6,6,6,6,6,6,6,6,6,6,6,6,6,6,6,6,6,6,6,6,6,6,6,7,7,7,7,7,7,7,7,7,7,7,7,7,7,7,7,7,7,7,7,7,7,7,7,7,7,7,7,7,7,7,7,7,7,7,7,7,7,7,7,7,7,7,7,7,7,7,7,7,7,7,7,7,7,7,7,7,7,7,7,7,7,7,7,8,8,8,8,8,8,8,8,8,8,8,8,8,8,8,8,8,8,8,8,8,8,8,8,8,8,8,8,8,8,8,8,8,8,8,8,8,8,8,8,8,8,8,8,8,8,8,8,8,8,8,8,8,8,8,8,8,8,8,8,8,8,8,8,8,8,8,8,8,8,8,8,8,8,8,8,8,8,8,8,8,8,8,8,8,8,8,8,8,8,8,8,8,8,8,8,8,8,8,8,8,8,8,8,8,8,8,8,8,8,8,8,8,8,8,8,8,8,8,8,8,8,8,8,8,8,8,8]:List UInt8)) (wrap .u8 (bY .u64 (bY .u64 (bY .u64 x 32) 16) 8))).bind fun c=>
 some (wrap .i64 (56+(wrap .i64 (c.toNat:Int))))) (
 (atL (([0,1,2,2,3,3,3,3,4,4,4,4,4,4,4,4,5,5,5,5,5,5,5,5,5,5,5,5,5,5,5,5,6,6,6,6,6,6,6,6,6,6,6,6,6,6,6,6,6,6,6,6,6,6,6,6,6,6,6,6,6,6,6,6,7,7,7,7,7,7,7,7,7,7,7,7,7,7,7,7,7,7,7,7,7,7,7,7,7,7,7,7,7,7,7,7,7,7,7,7,7,7,7,7,7,7,7,7,7,7,7,7,7,7,7,7,7,7,7,7,7,7,7,7,7,7,7,7,8,8,8,8,8,8,8,8,8,8,8,8,8,8,8,8,8,8,8,8,8,8,8,8,8,8,8,8,8,8,8,8,8,8,8,8,8,8,8,8,8,8,8,8,8,8,8,8,8,8,8,8,8,8,8,8,8,8,8,8,8,8,8,8,8,8,8,8,8,8,8,8,8,8,8,8,8,8,8,8,8,8,8,8,8,8,8,8,8,8,8,8,8,8,8,8,8,8,8,8,8,8,8,8,8,8,8,8,8,8,8,8,8,8,8,8,8,8,8,8,8,8,8,8,8,8,8,8]:List UInt8)) (wrap .u8 (bY .u64 (bY .u64 x 32) 16))).bind fun d=>
 some (wrap .i64 (48+(wrap .i64 (d.toNat:Int)))))) (
 br (decide ((bY .u64 x 32)>=256)) (
 (atL (([0,1,2,2,3,3,3,3,4,4,4,4,4,4,4,4,5,5,5,5,5,5,5,5,5,5,5,5,5,5,5,5,6,6,6,6,6,6,6,6,6,6,6,6,6,6,6,6,6,6,6,6,6,6,6,6,6,6,6,6,6,6,6,6,7,7,7,7,7,7,7,7,7,7,7,7,7,7,7,7,7,7,7,7,7,7,7,7,7,7,7,7,7,7,7,7,7,7,7,7,7,7,7,7,7,7,7,7,7,7,7,7,7,7,7,7,7,7,7,7,7,7,7,7,7,7,7,7,8,8,8,8,8,8,8,8,8,8,8,8,8,8,8,8,8,8,8,8,8,8,8,8,8,8,8,8,8,8,8,8,8,8,8,8,8,8,8,8,8,8,8,8,8,8,8,8,8,8,8,8,8,8,8,8,8,8,8,8,8,8,8,8,8,8,8,8,8,8,8,8,8,8,8,8,8,8,8,8,8,8,8,8,8,8,8,8,8,8,8,8,8,8,8,8,8,8,8,8,8,8,8,8,8,8,8,8,8,8,8,8,8,8,8,8,8,8,8,8,8,8,8,8,8,8,8,8]:List UInt8)) (wrap .u8 (bY .u64 (bY .u64 x 32) 8))).bind fun i=>
 some (wrap .i64 (40+(wrap .i64 (i.toNat:Int))))) (
 (atL (([0,1,2,2,3,3,3,3,4,4,4,4,4,4,4,4,5,5,5,5,5,5,5,5,5,5,5,5,5,5,5,5,6,6,6,6,6,6,6,6,6,6,6,6,6,6,6,6,6,6,6,6,6,6,6,6,6,6,6,6,6,6,6,6,7,7,7,7,7,7,7,7,7,7,7,7,7,7,7,7,7,7,7,7,7,7,7,7,7,7,7,7,7,7,7,7,7,7,7,7,7,7,7,7,7,7,7,7,7,7,7,7,7,7,7,7,7,7,7,7,7,7,7,7,7,7,7,7,8,8,8,8,8,8,8,8,8,8,8,8,8,8,8,8,8,8,8,8,8,8,8,8,8,8,8,8,8,8,8,8,8,8,8,8,8,8,8,8,8,8,8,8,8,8,8,8,8,8,8,8,8,8,8,8,8,8,8,8,8,8,8,8,8,8,8,8,8,8,8,8,8,8,8,8,8,8,8,8,8,8,8,8,8,8,8,8,8,8,8,8,8,8,8,8,8,8,8,8,8,8,8,8,8,8,8,8,8,8,8,8,8,8,8,8,8,8,8,8,8,8,8,8,8,8,8,8]:List UInt8)) (wrap .u8 (bY .u64 x 32))).bind fun f=>
 some (wrap .i64 (32+(wrap .i64 (f.toNat:Int))))))) (
 br (decide (x>=65536)) (
 br (decide ((bY .u64 x 16)>=256)) (
 (atL (([0,1,2,2,3,3,3,3,4,4,4,4,4,4,4,4,5,5,5,5,5,5,5,5,5,5,5,5,5,5,5,5,6,6,6,6,6,6,6,6,6,6,6,6,6,6,6,6,6,6,6,6,6,6,6,6,6,6,6,6,6,6,6,6,7,7,7,7,7,7,7,7,7,7,7,7,7,7,7,7,7,7,7,7,7,7,7,7,7,7,7,7,7,7,7,7,7,7,7,7,7,7,7,7,7,7,7,7,7,7,7,7,7,7,7,7,7,7,7,7,7,7,7,7,7,7,7,7,8,8,8,8,8,8,8,8,8,8,8,8,8,8,8,8,8,8,8,8,8,8,8,8,8,8,8,8,8,8,8,8,8,8,8,8,8,8,8,8,8,8,8,8,8,8,8,8,8,8,8,8,8,8,8,8,8,8,8,8,8,8,8,8,8,8,8,8,8,8,8,8,8,8,8,8,8,8,8,8,8,8,8,8,8,8,8,8,8,8,8,8,8,8,8,8,8,8,8,8,8,8,8,8,8,8,8,8,8,8,8,8,8,8,8,8,8,8,8,8,8,8,8,8,8,8,8,8]:List UInt8)) (wrap .u8 (bY .u64 (bY .u64 x 16) 8))).bind fun b=>
 some (wrap .i64 (24+(wrap .i64 (b.toNat:Int))))) (
 (atL (([0,1,2,2,3,3,3,3,4,4,4,4,4,4,4,4,5,5,5,5,5,5,5,5,5,5,5,5,5,5,5,5,6,6,6,6,6,6,6,6,6,6,6,6,6,6,6,6,6,6,6,6,6,6,6,6,6,6,6,6,6,6,6,6,7,7,7,7,7,7,7,7,7,7,7,7,7,7,7,7,7,7,7,7,7,7,7,7,7,7,7,7,7,7,7,7,7,7,7,7,7,7,7,7,7,7,7,7,7,7,7,7,7,7,7,7,7,7,7,7,7,7,7,7,7,7,7,7,8,8,8,8,8,8,8,8,8,8,8,8,8,8,8,8,8,8,8,8,8,8,8,8,8,8,8,8,8,8,8,8,8,8,8,8,8,8,8,8,8,8,8,8,8,8,8,8,8,8,8,8,8,8,8,8,8,8,8,8,8,8,8,8,8,8,8,8,8,8,8,8,8,8,8,8,8,8,8,8,8,8,8,8,8,8,8,8,8,8,8,8,8,8,8,8,8,8,8,8,8,8,8,8,8,8,8,8,8,8,8,8,8,8,8,8,8,8,8,8,8,8,8,8,8,8,8,8]:List UInt8)) (wrap .u8 (bY .u64 x 16))).bind fun h=>
 some (wrap .i64 (16+(wrap .i64 (h.toNat:Int)))))) (
 br (decide (x>=256)) (
 (atL (([0,1,2,2,3,3,3,3,4,4,4,4,4,4,4,4,5,5,5,5,5,5,5,5,5,5,5,5,5,5,5,5,6,6,6,6,6,6,6,6,6,6,6,6,6,6,6,6,6,6,6,6,6,6,6,6,6,6,6,6,6,6,6,6,7,7,7,7,7,7,7,7,7,7,7,7,7,7,7,7,7,7,7,7,7,7,7,7,7,7,7,7,7,7,7,7,7,7,7,7,7,7,7,7,7,7,7,7,7,7,7,7,7,7,7,7,7,7,7,7,7,7,7,7,7,7,7,7,8,8,8,8,8,8,8,8,8,8,8,8,8,8,8,8,8,8,8,8,8,8,8,8,8,8,8,8,8,8,8,8,8,8,8,8,8,8,8,8,8,8,8,8,8,8,8,8,8,8,8,8,8,8,8,8,8,8,8,8,8,8,8,8,8,8,8,8,8,8,8,8,8,8,8,8,8,8,8,8,8,8,8,8,8,8,8,8,8,8,8,8,8,8,8,8,8,8,8,8,8,8,8,8,8,8,8,8,8,8,8,8,8,8,8,8,8,8,8,8,8,8,8,8,8,8,8,8]:List UInt8)) (wrap .u8 (bY .u64 x 8))).bind fun e=>
 some (wrap .i64 (8+(wrap .i64 (e.toNat:Int))))) (
 (atL (([0,1,2,2,3,3,3,3,4,4,4,4,4,4,4,4,5,5,5,5,5,5,5,5,5,5,5,5,5,5,5,5,6,6,6,6,6,6,6,6,6,6,6,6,6,6,6,6,6,6,6,6,6,6,6,6,6,6,6,6,6,6,6,6,7,7,7,7,7,7,7,7,7,7,7,7,7,7,7,7,7,7,7,7,7,7,7,7,7,7,7,7,7,7,7,7,7,7,7,7,7,7,7,7,7,7,7,7,7,7,7,7,7,7,7,7,7,7,7,7,7,7,7,7,7,7,7,7,8,8,8,8,8,8,8,8,8,8,8,8,8,8,8,8,8,8,8,8,8,8,8,8,8,8,8,8,8,8,8,8,8,8,8,8,8,8,8,8,8,8,8,8,8,8,8,8,8,8,8,8,8,8,8,8,8,8,8,8,8,8,8,8,8,8,8,8,8,8,8,8,8,8,8,8,8,8,8,8,8,8,8,8,8,8,8,8,8,8,8,8,8,8,8,8,8,8,8,8,8,8,8,8,8,8,8,8,8,8,8,8,8,8,8,8,8,8,8,8,8,8,8,8,8,8,8,8]:List UInt8)) (wrap .u8 x)).bind fun a=>
 some (wrap .i64 (0+(wrap .i64 (a.toNat:Int)))))))
theorem KG {x r} (h:wF x=some r):Call tab ow 386 [.lit (.int .u64 x)] []=some (I r,[]):=by
 rw [aj (af:=nM) rfl]
 unfold wF at h
 simp only [nM,AF]
 exact go2
def Br (x:Int):Option (Int):=
 (wF x).bind fun a=>
 some a
theorem PM {x r} (h:Br x=some r):Call tab ow 348 [.lit (.int .u64 x)] []=some (I r,[]):=by
 rw [aj (af:=qC) rfl]
 unfold Br at h
 simp only [qC,EN]
 have d1:= @KG
 exact go2
def KY (n:Int):Option (Int):=
 (Br (wrap .u64 n)).bind fun a=>
 some (wrap .i64 (a-1))
theorem X8 {n r} (h:KY n=some r):Call tab ow 309 [I n] []=some (I r,[]):=by
 rw [aj (af:=Hn) rfl]
 unfold KY at h
 simp only [Hn,Xu]
 have d1:= @PM
 exact go2
def yi:Int×Int×Int->Option ((Int×Int×Int)⊕((Int×Int×Int×Bool)))
 | (c,b,a)=>
   br (decide (b>0)) (
   br ((dc .i64 b 1)==1) (
   (zi a c).bind fun f=>
   (zi c c).bind fun d=>
   some (.inl (d,(bY .i64 b 1),f))) (
   (zi c c).bind fun e=>
   some (.inl (e,(bY .i64 b 1),a)))) (
   some (.inr (c,b,a,decide (b>0))))
theorem b1w:LX tab ow (.close [6002,7002]) WK (yi) (fun s=>⟨[(0,I s.1),(1,I s.2.1),(5,I s.2.2)],[]⟩) (fun e=>(.exit 0,⟨[(0,I e.1),(1,I e.2.1),(5,I e.2.2.1),(7,B e.2.2.2)],[]⟩)):=by
 refine lrX (fun s o h=> ?_)
 obtain ⟨_,_,_⟩:=s
 simp only [yi] at h
 simp only [WK,WS]
 have d1:= @Q3
 exact go2
def QU (a n:Int):Option (Int):=
 (Loop (yi) (a,n,1)).bind fun b=>
 some b.2.2.1
theorem a0w {a n r} (h:QU a n=some r):Call tab ow 359 [I a,I n] []=some (I r,[]):=by
 rw [aj (af:=Q0) rfl]
 unfold QU at h
 simp only [Q0,a1z]
 have d1:= @b1w
 exact go2
def Um (k:Int):Option (Int):=
 br (decide (0<=(wrap .i64 (24-k)))) (
 (QU 3 (bG .i64 127 (wrap .i64 (24-k)))).bind fun a=>
 some a) none
theorem b5X {k r} (h:Um k=some r):Call tab ow 308 [I k] []=some (I r,[]):=by
 rw [aj (af:=Lb) rfl]
 unfold Um at h
 simp only [Lb,a2T]
 have d1:= @a0w
 exact go2
def is (a:Ext) (n:Int):Option (Ext):=
 (zi a.A n).bind fun c=>
 (zi a.B n).bind fun b=>
 some (Ext.mk c b)
theorem od {a n r} (h:is a n=some r):Call tab ow 354 [.agg [I a.A,I a.B],I n] []=some (.agg [I r.A,I r.B],[]):=by
 rw [aj (af:=sV) rfl]
 unfold is at h
 simp only [sV,Ha]
 have d1:= @Q3
 exact go2
def fT (a b:Ext):Option (Ext):=
 (KT a.A b.A).bind fun d=>
 (KT a.B b.B).bind fun c=>
 some (Ext.mk d c)
theorem ip {a b r} (h:fT a b=some r):Call tab ow 199 [.agg [I a.A,I a.B],.agg [I b.A,I b.B]] []=some (.agg [I r.A,I r.B],[]):=by
 rw [aj (af:=y8) rfl]
 unfold fT at h
 simp only [y8,LU]
 have d1:= @Zm
 exact go2
section
theorem UX:mkR 2000 []=rws eU8 []:=rfl
attribute [local go_sem] UX
def lO (t:List Ext) (c:Int):(List UInt8)×Int->Option (((List UInt8)×Int)⊕(((List UInt8)×Int×Bool)))
 | (l,a)=>
   br (decide (a<c)) (
   (atL t a).bind fun x=>
   (lf x.A l).bind fun d=>
   (lf x.B d).bind fun b=>
   some (.inl (b,(wrap .i64 (a+1))))) (
   some (.inr (l,a,decide (a<c))))
theorem RZ {t a}:LX tab ow (.close [5002,6003,6006]) Fu (lO t a) (fun s=>⟨[(3,.sl 2000 0 s.1.length),(7,sl eExt t),(8,I a),(9,I s.2)],[(2000,⟨1,false,rws eU8 s.1⟩)]⟩) (fun e=>(.exit 0,⟨[(3,.sl 2000 0 e.1.length),(7,sl eExt t),(8,I a),(9,I e.2.1),(10,B e.2.2)],[(2000,⟨1,false,rws eU8 e.1⟩)]⟩)):=by
 refine lrX (fun s o h=> ?_)
 obtain ⟨_,_⟩:=s
 simp only [lO] at h
 simp only [Fu,Hc]
 have d1:= @o5
 exact go2
def tH (a:(List Ext)):Option ((List UInt8)):=
 (Loop (lO a ((a.length:Nat):Int)) (([]:List UInt8),0)).bind fun b=>
 some b.1
theorem KX {a r} (h:tH a=some r):Call tab ow 175 [sl eExt a] []=some (sl eU8 r,[]):=by
 rw [aj (af:=y6) rfl]
 unfold tH at h
 simp only [y6,DS]
 have d1:= @RZ
 exact go2
end
def yz (a:(List UInt8)):Option ((List UInt8)):=
 br (cP ((([0]:List UInt8)).length+a.length) 1) (
 some ((([0]:List UInt8))++a)) none
theorem ZR {a r} (h:yz a=some r):Call tab ow 305 [S a] []=some (S r,[]):=by
 rw [aj (af:=xg) rfl]
 unfold yz at h
 simp only [xg,KR]
 exact go2
def tF (a b:(List UInt8)):Option ((List UInt8)):=
 br (cP ((([1]:List UInt8)).length+a.length) 1) (
 br (cP (((([1]:List UInt8))++a).length+b.length) 1) (
 some (((([1]:List UInt8))++a)++b)) none) none
theorem ZM {a b r} (h:tF a b=some r):Call tab ow 306 [S a,S b] []=some (S r,[]):=by
 rw [aj (af:=xY) rfl]
 unfold tF at h
 simp only [xY,Lc]
 exact go2
def mD (t:List UInt8) (b:Int):Int×Int->Option ((Int×Int)⊕((Int×Int×Bool)))
 | (n,a)=>
   br (decide (a<b)) (
   (atL t a).bind fun x=>
   some (.inl ((B7 .u64 (bG .u64 n 8) (wrap .u64 (x.toNat:Int))),(wrap .i64 (a+1))))) (
   some (.inr (n,a,decide (a<b))))
theorem Zx {t a}:LX tab ow (.close []) Mx (mD t a) (fun s=>⟨[(3,.lit (.int .u64 s.1)),(6,sl eU8 t),(7,I a),(8,I s.2)],[]⟩) (fun e=>(.exit 0,⟨[(3,.lit (.int .u64 e.1)),(6,sl eU8 t),(7,I a),(8,I e.2.1),(9,B e.2.2)],[]⟩)):=by
 refine lrX (fun s o h=> ?_)
 obtain ⟨_,_⟩:=s
 simp only [mD] at h
 simp only [Mx,LI]
 exact go2
def CH (b:(List UInt8)):Option (Int):=
 (Loop (mD b ((b.length:Nat):Int)) (0,0)).bind fun a=>
 some (wrap .i64 (a.1.tmod 2130706433))
theorem a5w {b r} (h:CH b=some r):Call tab ow 368 [sl eU8 b] []=some (I r,[]):=by
 rw [aj (af:=Ek) rfl]
 unfold CH at h
 simp only [Ek,Kb]
 have d1:= @Zx
 exact go2
section
theorem MM:mkR 5005 []=rws eU8 []:=rfl
attribute [local go_sem] MM
theorem ND:mkR 5012 []=rws (eL eU8) []:=rfl
attribute [local go_sem] ND
def jk (m:Source):Option (Ext×Source):=
 br (decide (((m.Script.length:Nat):Int)>0)) (
 br (decide (((m.Script.length:Nat):Int)≠0)) (
 (atL m.Script ((wrap .i64 ((wrap .i64 (m.At+1))-1)).tmod ((m.Script.length:Nat):Int))).bind fun x=>
 some (x,(Source.mk m.Script (wrap .i64 (m.At+1)) m.State m.Count))) none) (
 br (cP m.State.length 1) (
 (G2 m.Count).bind fun e=>
 (sX ([m.State,([(100:UInt8),(114:UInt8),(97:UInt8),(119:UInt8)]:List UInt8),e]:List (List UInt8))).bind fun a=>
 br (cP a.length 1) (
 (lh a 0 8).bind fun y=>
 (CH y).bind fun c=>
 (lh a 8 16).bind fun d=>
 (CH d).bind fun b=>
 some ((Ext.mk c b),(Source.mk m.Script m.At m.State (wrap .i64 (m.Count+1))))) none) none)
theorem wG {m r} (h:jk m=some r):Call tab ow 325 [.ptr 0 0 0 1] [⟨4,true,[[sl eExt m.Script,I m.At,S m.State,I m.Count]]⟩]=some (.agg [I r.1.A,I r.1.B],[⟨4,true,[[sl eExt r.2.Script,I r.2.At,S r.2.State,I r.2.Count]]⟩]):=by
 rw [aj (af:=qF) rfl]
 unfold jk at h
 simp only [qF,EX]
 have d1:= @L1
 have d2:= @zt
 have d3:= @a5w
 exact go2
end
section
theorem L8:mkR 2000 []=rws eExt []:=rfl
attribute [local go_sem] L8
theorem Lx:mkR 5003 []=rws eExt []:=rfl
attribute [local go_sem] Lx
def fS (t:Int):(List Ext)×Int×(List Ext)×Int×(List UInt8)×Int->Option (((List Ext)×Int×(List Ext)×Int×(List UInt8)×Int)⊕(((List Ext)×Int×Bool×(List Ext)×Int×(List UInt8)×Int)))
 | (l,b,c,d,f,e)=>
   br (decide (b<t)) (
   (jk (Source.mk c d f e)).bind fun a=>
   br (cP ((l++([a.1]:List Ext)).length) 16) (
   some (.inl ((l++([a.1]:List Ext)),(wrap .i64 (b+1)),a.2.Script,a.2.At,a.2.State,a.2.Count))) none) (
   some (.inr (l,b,decide (b<t),c,d,f,e)))
abbrev ru (l c:List Ext) (d:Int) (b:List UInt8) (a:Int):List (Nat×Blk):=[(0,⟨4,true,[[sl eExt c,I d,S b,I a]]⟩),(2000,⟨2,false,rws eExt l⟩)]
theorem Ko {t}:LX tab ow (.close [5002,5003,5004]) yt (fS t) (fun s=>⟨[(0,.ptr 0 0 0 1),(5,.sl 2000 0 s.1.length),(7,I t),(8,I s.2.1)],ru s.1 s.2.2.1 s.2.2.2.1 s.2.2.2.2.1 s.2.2.2.2.2⟩) (fun e=>(.exit 0,⟨[(0,.ptr 0 0 0 1),(5,.sl 2000 0 e.1.length),(7,I t),(8,I e.2.1),(9,B e.2.2.1)],ru e.1 e.2.2.2.1 e.2.2.2.2.1 e.2.2.2.2.2.1 e.2.2.2.2.2.2⟩)):=by
 refine lrX (fun s o h=> ?_)
 obtain ⟨_,_,_,_,_,_⟩:=s
 simp only [fS] at h
 simp only [ru,yt,z7]
 have d1:= @wG
 exact go2
def jL (n:Int) (m:Source):Option ((List Ext)×Source):=
 (Loop (fS n) (([]:List Ext),0,m.Script,m.At,m.State,m.Count)).bind fun a=>
 some (a.1,(Source.mk a.2.2.2.1 a.2.2.2.2.1 a.2.2.2.2.2.1 a.2.2.2.2.2.2))
theorem BY {n m r} (h:jL n m=some r):Call tab ow 227 [.ptr 0 0 0 1,I n] [⟨4,true,[[sl eExt m.Script,I m.At,S m.State,I m.Count]]⟩]=some (sl eExt r.1,[⟨4,true,[[sl eExt r.2.Script,I r.2.At,S r.2.State,I r.2.Count]]⟩]):=by
 rw [aj (af:=p5) rfl]
 unfold jL at h
 simp only [p5,tv]
 have d1:= @Ko
 exact go2
end
def NK:Option (Ext):=
 some (Ext.mk 1 0)
theorem Qa {r} (h:NK=some r):Call tab ow 201 [] []=some (.agg [I r.A,I r.B],[]):=by
 rw [aj (af:=Q2) rfl]
 unfold NK at h
 simp only [Q2,a7V]
 exact go2
def dd (a b:Ext):Option (Ext):=
 (zi a.A b.A).bind fun j=>
 (zi a.B b.B).bind fun f=>
 (zi 3 f).bind fun i=>
 (KT j i).bind fun h=>
 (zi a.A b.B).bind fun c=>
 (zi a.B b.A).bind fun e=>
 (KT c e).bind fun d=>
 some (Ext.mk h d)
theorem fc {a b r} (h:dd a b=some r):Call tab ow 200 [.agg [I a.A,I a.B],.agg [I b.A,I b.B]] []=some (.agg [I r.A,I r.B],[]):=by
 rw [aj (af:=uH) rfl]
 unfold dd at h
 simp only [uH,Jh]
 have d1:= @Q3
 have d2:= @Zm
 exact go2
section
theorem ZI:mkR 2001 []=rws eExt []:=rfl
attribute [local go_sem] ZI
theorem a0r:mkR 6000 []=rws eExt []:=rfl
attribute [local go_sem] a0r
theorem Z4:mkR 6001 []=rws eExt []:=rfl
attribute [local go_sem] Z4
theorem a0N:mkR 10006 []=rws eExt []:=rfl
attribute [local go_sem] a0N
theorem ZV:mkR 10012 []=rws eExt []:=rfl
attribute [local go_sem] ZV
def nl (o:List Ext) (p n:Int) (m:List Ext) (k c j:Int):(List Ext)×(List Ext)×Int->Option (((List Ext)×(List Ext)×Int)⊕(((List Ext)×(List Ext)×Int×Bool)))
 | (l,h,d)=>
   br (decide (d<k)) (
   (atL m d).bind fun i=>
   (NK).bind fun f=>
   (iw f (Ext.mk c j)).bind fun e=>
   (dd i e).bind fun b=>
   br (cP ((l++([b]:List Ext)).length) 16) (
   (dd i (Ext.mk c j)).bind fun a=>
   br (cP ((h++([a]:List Ext)).length) 16) (
   some (.inl ((l++([b]:List Ext)),(h++([a]:List Ext)),(wrap .i64 (d+1))))) none) none) (
   some (.inr (l,h,d,decide (d<k))))
abbrev Be (c a:Int) (l b:List Ext):List (Nat×Blk):=[(5002,⟨2,true,[[I c,I a]]⟩),(6000,⟨2,false,rws eExt l⟩),(6001,⟨2,false,rws eExt b⟩)]
theorem Wb {b i a f j c d}:LX tab ow (.close [9002,10002,10004,10005,10006,10007,10011,10012,10013]) IX (nl b i a f j c d) (fun s=>⟨[(5,.ptr 5002 0 0 1),(6,.sl 6000 0 s.1.length),(7,.sl 6001 0 s.2.1.length),(12,sl eExt b),(13,I i),(14,I a),(20,sl eExt f),(21,I j),(22,I s.2.2)],Be c d s.1 s.2.1⟩) (fun e=>(.exit 2,⟨[(5,.ptr 5002 0 0 1),(6,.sl 6000 0 e.1.length),(7,.sl 6001 0 e.2.1.length),(12,sl eExt b),(13,I i),(14,I a),(20,sl eExt f),(21,I j),(22,I e.2.2.1),(23,B e.2.2.2)],Be c d e.1 e.2.1⟩)):=by
 refine lrX (fun s o h=> ?_)
 obtain ⟨_,_,_⟩:=s
 simp only [nl] at h
 simp only [Be,IX,IR]
 have d1:= @Qa
 have d2:= @nm
 have d3:= @fc
 exact go2
def nj (t:List Ext) (d:Int):(List Ext)×Int->Option (((List Ext)×Int)⊕(((List Ext)×Int×Bool)))
 | (a,b)=>
   br (decide (b<d)) (
   (atL t b).bind fun x=>
   (Loop (nl t d b a ((a.length:Nat):Int) x.A x.B) (([]:List Ext),([]:List Ext),0)).bind fun c=>
   br (cP ((c.1++c.2.1).length) 16) (
   some (.inl ((c.1++c.2.1),(wrap .i64 (b+1))))) none) (
   some (.inr (a,b,decide (b<d))))
theorem Vk {t a}:LX tab ow (.close [5002,6000,6001,9002,10002,10004,10005,10006,10007,10011,10012,10013,12002,2001]) J8 (nj t a) (fun s=>⟨[(3,sl eExt s.1),(12,sl eExt t),(13,I a),(14,I s.2)],[]⟩) (fun e=>(.exit 0,⟨[(3,sl eExt e.1),(12,sl eExt t),(13,I a),(14,I e.2.1),(15,B e.2.2)],[]⟩)):=by
 refine lrX (fun s o h=> ?_)
 obtain ⟨_,_⟩:=s
 simp only [nj] at h
 simp only [J8,Ik]
 have d1:= @Wb
 exact go2
def u9 (a:(List Ext)):Option ((List Ext)):=
 (NK).bind fun c=>
 (Loop (nj a ((a.length:Nat):Int)) (([c]:List Ext),0)).bind fun b=>
 some b.1
theorem GA {a r} (h:u9 a=some r):Call tab ow 102 [sl eExt a] []=some (sl eExt r,[]):=by
 rw [aj (af:=Ap) rfl]
 unfold u9 at h
 simp only [Ap,Av]
 have d1:= @Qa
 have d2:= @Vk
 exact go2
end
def rm (a:Int):Option (Int):=
 (jJ a 1 2).bind fun b=>
 br (!b) (
 some 0) (
 some (wrap .i64 (a+1)))
theorem Ll {a r} (h:rm a=some r):Call tab ow 324 [I a] []=some (I r,[]):=by
 rw [aj (af:=xK) rfl]
 unfold rm at h
 simp only [xK,Lp]
 have d1:= @zG
 exact go2
def CA (a b f:Ext):Option (Ext):=
 (iw b a).bind fun c=>
 (dd f c).bind fun e=>
 (fT a e).bind fun d=>
 some d
theorem a51 {a b c r} (h:CA a b c=some r):Call tab ow 300 [.agg [I a.A,I a.B],.agg [I b.A,I b.B],.agg [I c.A,I c.B]] []=some (.agg [I r.A,I r.B],[]):=by
 rw [aj (af:=Ai) rfl]
 unfold CA at h
 simp only [Ai,NI]
 have d1:= @nm
 have d2:= @fc
 have d3:= @ip
 exact go2
def ye (a:Int) (v:(List Ext)):Option (Ext):=
 br (a==1) (
 (atL v 0).bind fun x=>
 (atL v 1).bind fun h=>
 (dd x h).bind fun i=>
 some i) (
 (atL v 0).bind fun k=>
 (atL v 1).bind fun j=>
 (atL v 2).bind fun f=>
 (dd j f).bind fun b=>
 (atL v 3).bind fun e=>
 (iw b e).bind fun c=>
 (dd k c).bind fun d=>
 some d)
theorem a2U {a v r} (h:ye a v=some r):Call tab ow 299 [I a,sl eExt v] []=some (.agg [I r.A,I r.B],[]):=by
 rw [aj (af:=A7) rfl]
 unfold ye at h
 simp only [A7,OB]
 have d1:= @fc
 have d2:= @nm
 exact go2
def cY (a:(List Ext)) (m:Source):Option (Source):=
 (tH a).bind fun c=>
 (fQ c m).bind fun b=>
 some b
theorem jS {a m r} (h:cY a m=some r):Call tab ow 223 [.ptr 0 0 0 1,sl eExt a] [⟨4,true,[[sl eExt m.Script,I m.At,S m.State,I m.Count]]⟩]=some (.tup [],[⟨4,true,[[sl eExt r.Script,I r.At,S r.State,I r.Count]]⟩]):=by
 rw [aj (af:=jW) rfl]
 unfold cY at h
 simp only [jW,tl]
 have d1:= @KX
 have d2:= @nO
 exact go2
section
theorem PT: ∀k,Ck 2003 k [I (0:Int),I (0:Int)]=rws eExt (List.replicate k (Ext.mk (0:Int) (0:Int))):=fun _=>Nh eExt (Ext.mk (0:Int) (0:Int)) _ _
attribute [local go_sem] PT
def il (a:List Ext) (t r s:List au) (y:Int) (o:List au) (h c w c3:Int) (c4 v u:List au) (n i z m q j:Int):(List Ext)×Int->Option (((List Ext)×Int)⊕(((List Ext)×Int×Bool)))
 | (l,b)=>
   br (decide (b<h)) (
   (atL o b).bind fun x=>
   br (decide (0<=x.Col)) (
   br (decide (x.Col.toNat<l.length)) (
   (l[x.Col.toNat]?).bind fun k=>
   (atL a x.Row).bind fun p=>
   (dd (Ext.mk n i) p).bind fun e=>
   (is e x.Value).bind fun d=>
   (fT k d).bind fun f=>
   br (decide (0<=x.Col)) (
   br (decide (x.Col.toNat<l.length)) (
   (l[x.Col.toNat]?).bind fun x4=>
   some (.inl ((l.set x.Col.toNat f),(wrap .i64 (b+1))))) none) none) none) none) (
   some (.inr (l,b,decide (b<h))))
abbrev tz (c h n:Int) (k f m:List au) (j e i a b d:Int) (l:List Ext):List (Nat×Blk):=[(1000,⟨6,true,[[I c,I h,I n,sl aA k,sl aA f,sl aA m]]⟩),(1001,⟨6,true,[[I j,I e,I i,I a,I b,I d]]⟩),(2003,⟨2,false,rws eExt l⟩)]
theorem Np {a t q u l v j c n m x k w r i p b d f}:LX tab ow (.close [8002,9016,9019,9020]) jA (il a t q u l v j c n m x k w r i p b d f) (fun s=>⟨[(5,.ptr 1001 0 0 1),(7,.sl 2003 0 s.1.length),(8,sl eExt a),(9,I 0),(20,.agg [sl aA t,sl aA q,sl aA u]),(21,I l),(25,sl aA v),(26,I j),(27,I s.2)],tz c n m x k w r i p b d f s.1⟩) (fun e=>(.exit 2,⟨[(5,.ptr 1001 0 0 1),(7,.sl 2003 0 e.1.length),(8,sl eExt a),(9,I 0),(20,.agg [sl aA t,sl aA q,sl aA u]),(21,I l),(25,sl aA v),(26,I j),(27,I e.2.1),(28,B e.2.2)],tz c n m x k w r i p b d f e.1⟩)):=by
 refine lrX (fun s o h=> ?_)
 obtain ⟨_,_⟩:=s
 simp only [il] at h
 simp only [tz,jA,p7]
 have d1:= @fc
 have d2:= @od
 have d3:= @ip
 exact go2
def pb (c:List Ext) (z t9 x j:List au) (e m o r:Int) (u v t:List au) (q s l h w p:Int):(List Ext)×Int->Option (((List Ext)×Int)⊕(((List Ext)×Int×Bool)))
 | (d,a)=>
   br (decide (a<e)) (
   (atL j a).bind fun b=>
   br (decide (0<=b.Col)) (
   br (decide (b.Col.toNat<d.length)) (
   (d[b.Col.toNat]?).bind fun n=>
   (atL c b.Row).bind fun y=>
   (dd (Ext.mk l h) y).bind fun k=>
   (is k b.Value).bind fun i=>
   (fT n i).bind fun f=>
   br (decide (0<=b.Col)) (
   br (decide (b.Col.toNat<d.length)) (
   (d[b.Col.toNat]?).bind fun x8=>
   some (.inl ((d.set b.Col.toNat f),(wrap .i64 (a+1))))) none) none) none) none) (
   some (.inr (d,a,decide (a<e))))
abbrev tK (a e l:Int) (d f c:List au) (k m b h i j:Int) (n:List Ext):List (Nat×Blk):=[(1000,⟨6,true,[[I a,I e,I l,sl aA d,sl aA f,sl aA c]]⟩),(1001,⟨6,true,[[I k,I m,I b,I h,I i,I j]]⟩),(2003,⟨2,false,rws eExt n⟩)]
theorem MW {a w v q c l b i r f j d p t u m n k}:LX tab ow (.close [8002,9016,9019,9020]) jA (pb a w v q c l b i r f j d p t u m n k) (fun s=>⟨[(5,.ptr 1001 0 0 1),(7,.sl 2003 0 s.1.length),(8,sl eExt a),(9,I 1),(20,.agg [sl aA w,sl aA v,sl aA q]),(21,I 1),(25,sl aA c),(26,I l),(27,I s.2)],tK b i r f j d p t u m n k s.1⟩) (fun e=>(.exit 2,⟨[(5,.ptr 1001 0 0 1),(7,.sl 2003 0 e.1.length),(8,sl eExt a),(9,I 1),(20,.agg [sl aA w,sl aA v,sl aA q]),(21,I 1),(25,sl aA c),(26,I l),(27,I e.2.1),(28,B e.2.2)],tK b i r f j d p t u m n k e.1⟩)):=by
 refine lrX (fun s o h=> ?_)
 obtain ⟨_,_⟩:=s
 simp only [pb] at h
 simp only [tK,jA,p7]
 have d1:= @fc
 have d2:= @od
 have d3:= @ip
 exact go2
def oP (c:List Ext) (y r p j:List au) (e c25 w x:Int) (q u s:List au) (c31 t z v m k:Int):(List Ext)×Int->Option (((List Ext)×Int)⊕(((List Ext)×Int×Bool)))
 | (d,a)=>
   br (decide (a<e)) (
   (atL j a).bind fun b=>
   br (decide (0<=b.Col)) (
   br (decide (b.Col.toNat<d.length)) (
   (d[b.Col.toNat]?).bind fun i=>
   (atL c b.Row).bind fun n=>
   (dd (Ext.mk m k) n).bind fun l=>
   (is l b.Value).bind fun h=>
   (fT i h).bind fun f=>
   br (decide (0<=b.Col)) (
   br (decide (b.Col.toNat<d.length)) (
   (d[b.Col.toNat]?).bind fun o=>
   some (.inl ((d.set b.Col.toNat f),(wrap .i64 (a+1))))) none) none) none) none) (
   some (.inr (d,a,decide (a<e))))
abbrev u7 (a h j:Int) (d c m:List au) (i b l e k f:Int) (n:List Ext):List (Nat×Blk):=[(1000,⟨6,true,[[I a,I h,I j,sl aA d,sl aA c,sl aA m]]⟩),(1001,⟨6,true,[[I i,I b,I l,I e,I k,I f]]⟩),(2003,⟨2,false,rws eExt n⟩)]
theorem MA {a q l t b w j m p k d r n c v i u f}:LX tab ow (.close [8002,9016,9019,9020]) jA (oP a q l t b w j m p k d r n c v i u f) (fun s=>⟨[(5,.ptr 1001 0 0 1),(7,.sl 2003 0 s.1.length),(8,sl eExt a),(9,I 2),(20,.agg [sl aA q,sl aA l,sl aA t]),(21,I 2),(25,sl aA b),(26,I w),(27,I s.2)],u7 j m p k d r n c v i u f s.1⟩) (fun e=>(.exit 2,⟨[(5,.ptr 1001 0 0 1),(7,.sl 2003 0 e.1.length),(8,sl eExt a),(9,I 2),(20,.agg [sl aA q,sl aA l,sl aA t]),(21,I 2),(25,sl aA b),(26,I w),(27,I e.2.1),(28,B e.2.2)],u7 j m p k d r n c v i u f e.1⟩)):=by
 refine lrX (fun s o h=> ?_)
 obtain ⟨_,_⟩:=s
 simp only [oP] at h
 simp only [u7,jA,p7]
 have d1:= @fc
 have d2:= @od
 have d3:= @ip
 exact go2
def ta (s:bk) (f:(List Ext)) (a:(Ext×Ext×Ext)):Option ((List Ext)):=
 br (decide (0<=s.Cols)) (
 br (zJ (bG .i64 1 s.Cols) (bG .i64 1 s.Cols) 16) (
 (u9 f).bind fun c=>
 (fB s).bind fun b=>
 (Loop (il c b.1 b.2.1 b.2.2 (0:Int) b.1 ((b.1.length:Nat):Int) s.Rows s.Cols s.Publics s.A s.B s.C a.1.A a.1.B a.2.1.A a.2.1.B a.2.2.A a.2.2.B) ((List.replicate ((bG .i64 (1:Int) s.Cols).toNat) (Ext.mk (0:Int) (0:Int))),(0:Int))).bind fun h=>
 (Loop (pb c b.1 b.2.1 b.2.2 b.2.1 ((b.2.1.length:Nat):Int) s.Rows s.Cols s.Publics s.A s.B s.C a.1.A a.1.B a.2.1.A a.2.1.B a.2.2.A a.2.2.B) (h.1,0)).bind fun e=>
 (Loop (oP c b.1 b.2.1 b.2.2 b.2.2 ((b.2.2.length:Nat):Int) s.Rows s.Cols s.Publics s.A s.B s.C a.1.A a.1.B a.2.1.A a.2.1.B a.2.2.A a.2.2.B) (e.1,0)).bind fun d=>
 some d.1) none) none
theorem Uu {s b a r} (h:ta s b a=some r):Call tab ow 293 [.agg [I s.Rows,I s.Cols,I s.Publics,sl aA s.A,sl aA s.B,sl aA s.C],sl eExt b,.agg [I a.1.A,I a.1.B,I a.2.1.A,I a.2.1.B,I a.2.2.A,I a.2.2.B]] []=some (sl eExt r,[]):=by
 rw [aj (af:=sA) rfl]
 unfold ta at h
 simp+decide only [sA,sG,go_sem,reduceIte,Nat.reduceAdd,Int.reduceAdd,Int.reduceMul,Int.reduceSub]
 obtain ⟨hb,h⟩:=brg h
 refine Kc hb ?_
 obtain ⟨hb,h⟩:=brg h
 refine Kc hb ?_
 obtain ⟨r_,h1,h⟩:=bd h
 refine oZ (GA h1) ?_
 simp+decide only [go_sem,reduceIte,Nat.reduceAdd,Int.reduceAdd,Int.reduceMul,Int.reduceSub]
 obtain ⟨r_2,h1,h⟩:=bd h
 refine zB (pJ h1) ?_
 simp+decide only [go_sem,reduceIte,Nat.reduceAdd,Int.reduceAdd,Int.reduceMul,Int.reduceSub]
 refine kj ?_
 simp+decide only [mkL,go_sem,reduceIte,Nat.reduceAdd,Int.reduceAdd,Int.reduceMul,Int.reduceSub]
 obtain ⟨e_,h1,h⟩:=bd h
 refine K1 (lxE Np h1) ?_
 simp+decide only [go_sem,reduceIte,Nat.reduceAdd,Int.reduceAdd,Int.reduceMul,Int.reduceSub]
 refine kj ?_
 simp+decide only [mkL,go_sem,reduceIte,Nat.reduceAdd,Int.reduceAdd,Int.reduceMul,Int.reduceSub]
 obtain ⟨e_2,h1,h⟩:=bd h
 refine K1 (lxE MW h1) ?_
 simp+decide only [go_sem,reduceIte,Nat.reduceAdd,Int.reduceAdd,Int.reduceMul,Int.reduceSub]
 refine kj ?_
 simp+decide only [mkL,go_sem,reduceIte,Nat.reduceAdd,Int.reduceAdd,Int.reduceMul,Int.reduceSub]
 obtain ⟨e_3,h1,h⟩:=bd h
 refine K1 (lxE MA h1) ?_
 simp+decide only [go_sem,reduceIte,Nat.reduceAdd,Int.reduceAdd,Int.reduceMul,Int.reduceSub]
 refine kj ?_
 simp+decide only [mkL,go_sem,reduceIte,Nat.reduceAdd,Int.reduceAdd,Int.reduceMul,Int.reduceSub]
 obtain rfl:=cZ h
 first|rfl| (simp only [bg,go_sem];done)
end
def yl (i t:List Ext) (d c k:Int):Int×Int×Int->Option ((Int×Int×Int)⊕((Int×Bool×Int×Int)))
 | (a,f,e)=>
   br (decide (a<d)) (
   (atL t a).bind fun x=>
   (atL i a).bind fun h=>
   (dd x h).bind fun j=>
   (fT (Ext.mk f e) j).bind fun b=>
   some (.inl ((wrap .i64 (a+1)),b.A,b.B))) (
   some (.inr (a,decide (a<d),f,e)))
abbrev Ni (c d b a:Int):List (Nat×Blk):=[(1000,⟨2,true,[[I c,I d]]⟩),(2001,⟨2,true,[[I b,I a]]⟩)]
theorem b1O {d t b c a}:LX tab ow (.close [5003,6006,6007]) WT (yl d t b c a) (fun s=>⟨[(1,sl eExt d),(4,.ptr 1000 0 0 1),(5,.ptr 2001 0 0 1),(9,sl eExt t),(10,I b),(11,I s.1)],Ni c a s.2.1 s.2.2⟩) (fun e=>(.exit 0,⟨[(1,sl eExt d),(4,.ptr 1000 0 0 1),(5,.ptr 2001 0 0 1),(9,sl eExt t),(10,I b),(11,I e.1),(12,B e.2.1)],Ni c a e.2.2.1 e.2.2.2⟩)):=by
 refine lrX (fun s o h=> ?_)
 obtain ⟨_,_,_⟩:=s
 simp only [yl] at h
 simp only [Ni,WT,WR]
 have d1:= @fc
 have d2:= @ip
 exact go2
def KS (a b:(List Ext)):Option (Ext):=
 (Loop (yl b a ((a.length:Nat):Int) 0 0) (0,0,0)).bind fun c=>
 some (Ext.mk c.2.2.1 c.2.2.2)
theorem a8z {a b r} (h:KS a b=some r):Call tab ow 101 [sl eExt a,sl eExt b] []=some (.agg [I r.A,I r.B],[]):=by
 rw [aj (af:=PX) rfl]
 unfold KS at h
 simp only [PX,Y1]
 have d1:= @b1O
 exact go2
def u3 (a:Int):Option (Int):=
 (QU a 2130706431).bind fun b=>
 some b
theorem OT {a r} (h:u3 a=some r):Call tab ow 369 [I a] []=some (I r,[]):=by
 rw [aj (af:=zU) rfl]
 unfold u3 at h
 simp only [zU,OK]
 have d1:= @a0w
 exact go2
def oi (n i:Int) (a b r:Ext):Option (Ext):=
 (u3 2).bind fun f=>
 (KY n).bind fun q=>
 (Um q).bind fun o=>
 (QU o i).bind fun j=>
 (fT a b).bind fun m=>
 (is m f).bind fun k=>
 (iw a b).bind fun l=>
 (dd r l).bind fun p=>
 (u3 j).bind fun c=>
 (zi f c).bind fun h=>
 (is p h).bind fun e=>
 (fT k e).bind fun d=>
 some d
theorem ZZ {n i a b c r} (h:oi n i a b c=some r):Call tab ow 328 [I n,I i,.agg [I a.A,I a.B],.agg [I b.A,I b.B],.agg [I c.A,I c.B]] []=some (.agg [I r.A,I r.B],[]):=by
 rw [aj (af:=xu) rfl]
 unfold oi at h
 simp only [xu,LY]
 have d1:= @OT
 have d2:= @X8
 have d3:= @b5X
 have d4:= @a0w
 have d5:= @ip
 have d6:= @od
 have d7:= @nm
 have d8:= @fc
 have d9:= @Q3
 exact go2
def p8 (t:List UInt8) (b:Int):Int×Int->Option ((Int×Int)⊕((Int×Int×Bool)))
 | (n,a)=>
   br (decide (a<b)) (
   (atL t a).bind fun x=>
   some (.inl ((B7 .i64 (bG .i64 n 8) (wrap .i64 (x.toNat:Int))),(wrap .i64 (a+1))))) (
   some (.inr (n,a,decide (a<b))))
theorem Yk {t a}:LX tab ow (.close []) M1 (p8 t a) (fun s=>⟨[(3,I s.1),(6,sl eU8 t),(7,I a),(8,I s.2)],[]⟩) (fun e=>(.exit 0,⟨[(3,I e.1),(6,sl eU8 t),(7,I a),(8,I e.2.1),(9,B e.2.2)],[]⟩)):=by
 refine lrX (fun s o h=> ?_)
 obtain ⟨_,_⟩:=s
 simp only [p8] at h
 simp only [M1,LP]
 exact go2
def Fs (b:(List UInt8)):Option (Int):=
 (Loop (p8 b ((b.length:Nat):Int)) (0,0)).bind fun a=>
 some a.1
theorem a7x {b r} (h:Fs b=some r):Call tab ow 297 [sl eU8 b] []=some (I r,[]):=by
 rw [aj (af:=DG) rfl]
 unfold Fs at h
 simp only [DG,KA]
 have d1:= @Yk
 exact go2
section
theorem Nz:mkR 2003 []=rws eU8 []:=rfl
attribute [local go_sem] Nz
theorem MB:mkR 2007 []=rws (eL eU8) []:=rfl
attribute [local go_sem] MB
def pU (s:Source) (a b:Int):Option (Bool):=
 br (cP s.State.length 1) (
 (G2 b).bind fun e=>
 (sX ([s.State,([(103:UInt8),(114:UInt8),(105:UInt8),(110:UInt8),(100:UInt8)]:List UInt8),e]:List (List UInt8))).bind fun c=>
 br (cP c.length 1) (
 (lh c 0 4).bind fun y=>
 (Fs y).bind fun d=>
 br (decide (0<=(wrap .i64 (32-a)))) (
 some ((bY .i64 d (wrap .i64 (32-a)))==0)) none) none) none
theorem P2 {s b a r} (h:pU s b a=some r):Call tab ow 224 [.agg [sl eExt s.Script,I s.At,S s.State,I s.Count],I b,I a] []=some (B r,[]):=by
 rw [aj (af:=qz) rfl]
 unfold pU at h
 simp only [qz,EH]
 have d1:= @L1
 have d2:= @zt
 have d3:= @a7x
 exact go2
end
section
theorem a3N:mkR 2000 []=rws eI []:=rfl
attribute [local go_sem] a3N
theorem a5i:mkR 6005 []=rws eI []:=rfl
attribute [local go_sem] a5i
def mw (a:Int) (t:List Ext) (c:Int):(List Int)×Int->Option (((List Int)×Int)⊕(((List Int)×Int×Bool)))
 | (l,b)=>
   br (decide (b<c)) (
   (atL t b).bind fun x=>
   br (decide (a≠0)) (
   br (cP ((l++([(x.A.tmod a)]:List Int)).length) 8) (
   some (.inl ((l++([(x.A.tmod a)]:List Int)),(wrap .i64 (b+1))))) none) none) (
   some (.inr (l,b,decide (b<c))))
theorem a1j {a t b}:LX tab ow (.close [5002,6005,6006]) M9 (mw a t b) (fun s=>⟨[(1,I a),(5,.sl 2000 0 s.1.length),(9,sl eExt t),(10,I b),(11,I s.2)],[(2000,⟨1,false,rws eI s.1⟩)]⟩) (fun e=>(.exit 0,⟨[(1,I a),(5,.sl 2000 0 e.1.length),(9,sl eExt t),(10,I b),(11,I e.2.1),(12,B e.2.2)],[(2000,⟨1,false,rws eI e.1⟩)]⟩)):=by
 refine lrX (fun s o h=> ?_)
 obtain ⟨_,_⟩:=s
 simp only [mw] at h
 simp only [M9,Mt]
 exact go2
def Gh (a:(List Ext)) (b:Int):Option ((List Int)):=
 (Loop (mw b a ((a.length:Nat):Int)) (([]:List Int),0)).bind fun c=>
 some c.1
theorem a6s {b a r} (h:Gh b a=some r):Call tab ow 226 [sl eExt b,I a] []=some (sl eI r,[]):=by
 rw [aj (af:=CT) rfl]
 unfold Gh at h
 simp only [CT,JJ]
 have d1:= @a1j
 exact go2
end
def fH (x:Int):Option (Bool):=
 some (x !=x)
theorem wK {x r} (h:fH x=some r):Call tab ow 387 [I x] []=some (B r,[]):=by
 rw [aj (af:=fL) rfl]
 unfold fH at h
 simp only [fL,mT]
 exact go2
def dm (x y:Int):Option (Int):=
 (fH x).bind fun b=>
 (fH y).bind fun a=>
 br b (
 br a (
 some 0) (
 some (-1:Int))) (
 br a (
 some 1) (
 br (decide (x<y)) (
 some (-1:Int)) (
 br (decide (x>y)) (
 some 1) (
 some 0))))
theorem sr {x y r} (h:dm x y=some r):Call tab ow 350 [I x,I y] []=some (I r,[]):=by
 rw [aj (af:=eo) rfl]
 unfold dm at h
 simp only [eo,kE]
 have d1:= @wK
 exact go2
def bO (a:Int) (t:List Int) (c:Int):Int->Option ((Int)⊕(Int⊕(Int×Bool)))
 |b=>
  br (decide (b<c)) (
  (atL t b).bind fun x=>
  br (x !=a) (
  some (.inr (.inl x))) (
  some (.inl (wrap .i64 (b+1))))) (
  some (.inr (.inr (b,decide (b<c)))))
theorem zz {a t b}:LX tab ow (.close []) ou (bO a t b) (fun s=>⟨[(3,I a),(6,sl eI t),(7,I b),(8,I s)],[]⟩) (alt (fun e=>((.ret,⟨[(2,I e)],[]⟩):bT×St)) (fun e=>(.exit 0,⟨[(3,I a),(6,sl eI t),(7,I b),(8,I e.1),(9,B e.2)],[]⟩))):=by
 refine lrX (fun s o h=> ?_)
 simp only [bO] at h
 simp only [ou,oc]
 exact go2
def jD (a:(List Int)):Option (Int):=
 (Loop (bO 0 a ((a.length:Nat):Int)) 0).bind (alt (fun b=>
 some b) (fun c=>
 some 0))
theorem E8 {a r} (h:jD a=some r):Call tab ow 349 [sl eI a] []=some (I r,[]):=by
 rw [aj (af:=j9) rfl]
 unfold jD at h
 simp only [j9,ms]
 have d1:= @zz
 exact go2
section
theorem ug:mkR 2010 []=rws eI []:=rfl
attribute [local go_sem] ug
def gq (c f:au):Option (Int):=
 (dm c.Row f.Row).bind fun d=>
 (dm c.Col f.Col).bind fun a=>
 (jD ([d,a]:List Int)).bind fun b=>
 some b
theorem wV {a f r} (h:gq a f=some r):Call tab ow 288 [.agg [I a.Row,I a.Col,I a.Value],.agg [I f.Row,I f.Col,I f.Value]] []=some (I r,[]):=by
 rw [aj (af:=fO) rfl]
 unfold gq at h
 simp only [fO,mZ]
 have d1:= @sr
 have d2:= @E8
 exact go2
end
def og (b:List au) (d c:Int) (t:List au) (i:Int):Int->Option ((Int)⊕((Int×Int×Int)⊕(Int×Bool)))
 |a=>
  br (decide (a<i)) (
  (atL t a).bind fun x=>
  (jJ x.Row 0 (wrap .i64 (d-1))).bind fun k=>
  br (!k) (
  some (.inr (.inl (x.Row,x.Col,x.Value)))) (
  (jJ x.Col 0 (wrap .i64 (c-1))).bind fun f=>
  br (!f) (
  some (.inr (.inl (x.Row,x.Col,x.Value)))) (
  (jJ x.Value 1 2130706432).bind fun e=>
  br (!e) (
  some (.inr (.inl (x.Row,x.Col,x.Value)))) (
  br (decide (a>0)) (
  (atL b (wrap .i64 (a-1))).bind fun j=>
  (gq j x).bind fun h=>
  br (decide (h>=0)) (
  some (.inr (.inl (x.Row,x.Col,x.Value)))) (
  some (.inl (wrap .i64 (a+1))))) (
  some (.inl (wrap .i64 (a+1)))))))) (
  some (.inr (.inr (a,decide (a<i)))))
theorem Uo {c a b t d}:LX tab ow (.close [4003,5004,5011,5017,5030]) GS (og c a b t d) (fun s=>⟨[(0,sl aA c),(1,I a),(2,I b),(9,sl aA t),(10,I d),(11,I s)],[]⟩) (alt (fun e=>((.ret,⟨[(6,B false)],[(4003,⟨3,true,[[I e.1,I e.2.1,I e.2.2]]⟩)]⟩):bT×St)) (fun e=>(.exit 0,⟨[(0,sl aA c),(1,I a),(2,I b),(9,sl aA t),(10,I d),(11,I e.1),(12,B e.2)],[]⟩))):=by
 refine lrX (fun s o h=> ?_)
 simp only [og] at h
 simp only [GS,Fq]
 have d1:= @zG
 have d2:= @wV
 exact go2
def rj (a:(List au)) (b c:Int):Option (Bool):=
 (Loop (og a b c a ((a.length:Nat):Int)) 0).bind (alt (fun e=>
 some false) (fun d=>
 some (decide (((a.length:Nat):Int)<=200))))
theorem DK {b a c r} (h:rj b a c=some r):Call tab ow 178 [sl aA b,I a,I c] []=some (B r,[]):=by
 rw [aj (af:=xX) rfl]
 unfold rj at h
 simp only [xX,E5]
 have d1:= @Uo
 exact go2
def tV (s:bk):Option (Bool):=
 (jJ s.Rows 1 5).bind fun i=>
 br (!i) (
 some false) (
 (jJ s.Cols 2 5).bind fun e=>
 br (!e) (
 some false) (
 (fe s).bind fun h=>
 (jJ s.Publics 0 (wrap .i64 (h-1))).bind fun f=>
 br (!f) (
 some false) (
 (fB s).bind fun a=>
 br (decide (0<=s.Rows)) (
 br (decide (0<=s.Cols)) (
 (rj a.1 (bG .i64 1 s.Rows) (bG .i64 1 s.Cols)).bind fun d=>
 br (!d) (
 some false) (
 br (decide (0<=s.Rows)) (
 br (decide (0<=s.Cols)) (
 (rj a.2.1 (bG .i64 1 s.Rows) (bG .i64 1 s.Cols)).bind fun b=>
 br (!b) (
 some false) (
 br (decide (0<=s.Rows)) (
 br (decide (0<=s.Cols)) (
 (rj a.2.2 (bG .i64 1 s.Rows) (bG .i64 1 s.Cols)).bind fun c=>
 br (!c) (
 some false) (
 some true)) none) none)) none) none)) none) none)))
theorem Lj {s r} (h:tV s=some r):Call tab ow 86 [.agg [I s.Rows,I s.Cols,I s.Publics,sl aA s.A,sl aA s.B,sl aA s.C]] []=some (B r,[]):=by
 rw [aj (af:=xZ) rfl]
 unfold tV at h
 simp+decide only [xZ,Dj,go_sem,reduceIte,Nat.reduceAdd,Int.reduceAdd,Int.reduceMul,Int.reduceSub]
 obtain ⟨r_,h1,h⟩:=bd h
 refine oZ (zG h1) ?_
 simp+decide only [go_sem,reduceIte,Nat.reduceAdd,Int.reduceAdd,Int.reduceMul,Int.reduceSub]
 rcases brc h with ⟨hb,h⟩|⟨hb,h⟩
 ·refine Kc hb ?_
  obtain rfl:=cZ h
  first|rfl| (simp only [bg,go_sem];done)
 ·refine b1y hb ?_
  obtain ⟨r_2,h1,h⟩:=bd h
  refine oZ (zG h1) ?_
  simp+decide only [go_sem,reduceIte,Nat.reduceAdd,Int.reduceAdd,Int.reduceMul,Int.reduceSub]
  rcases brc h with ⟨hb,h⟩|⟨hb,h⟩
  ·refine Kc hb ?_
   obtain rfl:=cZ h
   first|rfl| (simp only [bg,go_sem];done)
  ·refine b1y hb ?_
   obtain ⟨r_3,h1,h⟩:=bd h
   refine oZ (n8 h1) ?_
   simp+decide only [go_sem,reduceIte,Nat.reduceAdd,Int.reduceAdd,Int.reduceMul,Int.reduceSub]
   obtain ⟨r_4,h1,h⟩:=bd h
   refine oZ (zG h1) ?_
   simp+decide only [go_sem,reduceIte,Nat.reduceAdd,Int.reduceAdd,Int.reduceMul,Int.reduceSub]
   rcases brc h with ⟨hb,h⟩|⟨hb,h⟩
   ·refine Kc hb ?_
    obtain rfl:=cZ h
    first|rfl| (simp only [bg,go_sem];done)
   ·refine b1y hb ?_
    obtain ⟨r_5,h1,h⟩:=bd h
    refine zB (pJ h1) ?_
    simp+decide only [go_sem,reduceIte,Nat.reduceAdd,Int.reduceAdd,Int.reduceMul,Int.reduceSub]
    refine kj ?_
    simp+decide only [mkL,go_sem,reduceIte,Nat.reduceAdd,Int.reduceAdd,Int.reduceMul,Int.reduceSub]
    obtain ⟨hb,h⟩:=brg h
    refine Kc hb ?_
    obtain ⟨hb,h⟩:=brg h
    refine Kc hb ?_
    obtain ⟨r_6,h1,h⟩:=bd h
    refine oZ (DK h1) ?_
    simp+decide only [go_sem,reduceIte,Nat.reduceAdd,Int.reduceAdd,Int.reduceMul,Int.reduceSub]
    rcases brc h with ⟨hb,h⟩|⟨hb,h⟩
    ·refine Kc hb ?_
     obtain rfl:=cZ h
     first|rfl| (simp only [bg,go_sem];done)
    ·refine b1y hb ?_
     refine kj ?_
     simp+decide only [mkL,go_sem,reduceIte,Nat.reduceAdd,Int.reduceAdd,Int.reduceMul,Int.reduceSub]
     obtain ⟨hb,h⟩:=brg h
     refine Kc hb ?_
     obtain ⟨hb,h⟩:=brg h
     refine Kc hb ?_
     obtain ⟨r_7,h1,h⟩:=bd h
     refine oZ (DK h1) ?_
     simp+decide only [go_sem,reduceIte,Nat.reduceAdd,Int.reduceAdd,Int.reduceMul,Int.reduceSub]
     rcases brc h with ⟨hb,h⟩|⟨hb,h⟩
     ·refine Kc hb ?_
      obtain rfl:=cZ h
      first|rfl| (simp only [bg,go_sem];done)
     ·refine b1y hb ?_
      refine kj ?_
      simp+decide only [mkL,go_sem,reduceIte,Nat.reduceAdd,Int.reduceAdd,Int.reduceMul,Int.reduceSub]
      obtain ⟨hb,h⟩:=brg h
      refine Kc hb ?_
      obtain ⟨hb,h⟩:=brg h
      refine Kc hb ?_
      obtain ⟨r_8,h1,h⟩:=bd h
      refine oZ (DK h1) ?_
      simp+decide only [go_sem,reduceIte,Nat.reduceAdd,Int.reduceAdd,Int.reduceMul,Int.reduceSub]
      rcases brc h with ⟨hb,h⟩|⟨hb,h⟩
      ·refine Kc hb ?_
       obtain rfl:=cZ h
       first|rfl| (simp only [bg,go_sem];done)
      ·refine b1y hb ?_
       refine kj ?_
       simp+decide only [mkL,go_sem,reduceIte,Nat.reduceAdd,Int.reduceAdd,Int.reduceMul,Int.reduceSub]
       obtain rfl:=cZ h
       first|rfl| (simp only [bg,go_sem];done)
def qr (a:(List Ext)) (m:Int):Option (Bool×Int):=
 br (((a.length:Nat):Int) !=m) (
 some (true,m)) (
 (gr a).bind fun b=>
 some ((!b),m))
theorem PI {a m r} (h:qr a m=some r):Call tab ow 237 [sl eExt a,.ptr 0 0 0 1] [⟨1,true,[[I m]]⟩]=some (B r.1,[⟨1,true,[[I r.2]]⟩]):=by
 rw [aj (af:=rf) rfl]
 unfold qr at h
 simp only [rf,F8]
 have d1:= @pz
 exact go2
end
end Go.AI.Fn
set_option linter.unusedVariables false
set_option linter.unusedSimpArgs false
set_option maxRecDepth 100000
set_option maxHeartbeats 1000000
namespace Go.AI.Fn
noncomputable section
open IntKind (wrap)
def cH (d:List (List Ext)) (t:Int):Int×Int->Option ((Int×Int)⊕((Int×Int)⊕(Int×Bool×Int)))
 | (a,c)=>
   br (decide (a<t)) (
   (atL d a).bind fun x=>
   (qr x c).bind fun b=>
   br b.1 (
   some (.inr (.inl (a,b.2)))) (
   some (.inl ((wrap .i64 (a+1)),b.2)))) (
   some (.inr (.inr (a,decide (a<t),c))))
theorem kw {a t}:LX tab ow (.close [5005]) jn (cH a t) (fun s=>⟨[(0,sl (eL eExt) a),(1,.fn 237 [.ptr 0 0 0 1]),(7,I t),(8,I s.1)],[(0,⟨1,true,[[I s.2]]⟩)]⟩) (alt (fun e=>((.ret,⟨[(4,I e.1)],[(0,⟨1,true,[[I e.2]]⟩)]⟩):bT×St)) (fun e=>(.exit 0,⟨[(0,sl (eL eExt) a),(1,.fn 237 [.ptr 0 0 0 1]),(7,I t),(8,I e.1),(9,B e.2.1)],[(0,⟨1,true,[[I e.2.2]]⟩)]⟩))):=by
 refine lrX (fun s o h=> ?_)
 obtain ⟨_,_⟩:=s
 simp only [cH] at h
 simp only [jn,jl]
 have d1:= @PI
 exact go2
def cW (s:(List (List Ext))) (m:Int):Option (Int×Int):=
 (Loop (cH s ((s.length:Nat):Int)) (0,m)).bind (alt (fun a=>
 some (a.1,a.2)) (fun b=>
 some ((-1:Int),b.2.2)))
theorem kW {s m r} (h:cW s m=some r):Call tab ow 332 [sl (eL eExt) s,.fn 237 [.ptr 0 0 0 1]] [⟨1,true,[[I m]]⟩]=some (I r.1,[⟨1,true,[[I r.2]]⟩]):=by
 rw [aj (af:=ec) rfl]
 unfold cW at h
 simp only [ec,gk]
 have d1:= @kw
 exact go2
def cL (s:(List (List Ext))) (m:Int):Option (Bool×Int):=
 (cW s m).bind fun a=>
 some (decide (a.1>=0),a.2)
theorem kf {s m r} (h:cL s m=some r):Call tab ow 236 [sl (eL eExt) s,.fn 237 [.ptr 0 0 0 1]] [⟨1,true,[[I m]]⟩]=some (B r.1,[⟨1,true,[[I r.2]]⟩]):=by
 rw [aj (af:=dF) rfl]
 unfold cL at h
 simp only [dF,j6]
 have d1:= @kW
 exact go2
def oA (a:(List (List Ext))) (b c:Int):Option (Bool):=
 br (((a.length:Nat):Int)==b) (
 (cL a c).bind fun d=>
 some (!d.1)) (
 some false)
theorem J2 {a b c r} (h:oA a b c=some r):Call tab ow 117 [sl (eL eExt) a,I b,I c] []=some (B r,[]):=by
 rw [aj (af:=ur) rfl]
 unfold oA at h
 simp only [ur,Jn]
 have d1:= @kf
 exact go2
def i8 (x:(List UInt8)):Option (Bool):=
 (we x).bind fun a=>
 some (!a)
theorem C6 {x r} (h:i8 x=some r):Call tab ow 239 [S x,.ptr 0 0 0 1] [⟨1,true,[[.fn 119 []]]⟩]=some (B r,[⟨1,true,[[.fn 119 []]]⟩]):=by
 rw [aj (af:=oR) rfl]
 unfold i8 at h
 simp only [oR,C4]
 have d1:= @E3
 exact go2
def ca (c:List (List UInt8)) (t:Int):Int->Option ((Int)⊕(Int⊕(Int×Bool)))
 |a=>
  br (decide (a<t)) (
  (atL c a).bind fun x=>
  (i8 x).bind fun b=>
  br b (
  some (.inr (.inl a))) (
  some (.inl (wrap .i64 (a+1))))) (
  some (.inr (.inr (a,decide (a<t)))))
theorem iD {a t}:LX tab ow (.close [5005]) dN (ca a t) (fun s=>⟨[(0,sl eS a),(1,.fn 239 [.ptr 0 0 0 1]),(7,I t),(8,I s)],[(0,⟨1,true,[[.fn 119 []]]⟩)]⟩) (alt (fun e=>((.ret,⟨[(4,I e)],[(0,⟨1,true,[[.fn 119 []]]⟩)]⟩):bT×St)) (fun e=>(.exit 0,⟨[(0,sl eS a),(1,.fn 239 [.ptr 0 0 0 1]),(7,I t),(8,I e.1),(9,B e.2)],[(0,⟨1,true,[[.fn 119 []]]⟩)]⟩))):=by
 refine lrX (fun s o h=> ?_)
 simp only [ca] at h
 simp only [dN,fG]
 have d1:= @C6
 exact go2
def co (s:(List (List UInt8))):Option (Int):=
 (Loop (ca s ((s.length:Nat):Int)) 0).bind (alt (fun a=>
 some a) (fun b=>
 some (-1:Int)))
theorem iZ {s r} (h:co s=some r):Call tab ow 333 [sl eS s,.fn 239 [.ptr 0 0 0 1]] [⟨1,true,[[.fn 119 []]]⟩]=some (I r,[⟨1,true,[[.fn 119 []]]⟩]):=by
 rw [aj (af:=cM) rfl]
 unfold co at h
 simp only [cM,ea]
 have d1:= @iD
 exact go2
def ce (s:(List (List UInt8))):Option (Bool):=
 (co s).bind fun a=>
 some (decide (a>=0))
theorem iA {s r} (h:ce s=some r):Call tab ow 238 [sl eS s,.fn 239 [.ptr 0 0 0 1]] [⟨1,true,[[.fn 119 []]]⟩]=some (B r,[⟨1,true,[[.fn 119 []]]⟩]):=by
 rw [aj (af:=cy) rfl]
 unfold ce at h
 simp only [cy,fy]
 have d1:= @iZ
 exact go2
def gR (a:(List (List UInt8))):Option (Bool):=
 (ce a).bind fun b=>
 some (!b)
theorem tr {a r} (h:gR a=some r):Call tab ow 118 [.fn 119 [],sl eS a] []=some (B r,[]):=by
 rw [aj (af:=sL) rfl]
 unfold gR at h
 simp only [sL,Gc]
 have d1:= @iA
 exact go2
def kH (a:Int) (f:List (List (List UInt8))) (e:Int) (c:List Ext) (j:List (List (List UInt8))) (h k i:Int):Int->Option ((Int)⊕(Unit⊕(Int×Bool)))
 |b=>
  br (decide (b<e)) (
  (atL f b).bind fun x=>
  br (((x.length:Nat):Int) !=(wrap .i64 ((wrap .i64 ((wrap .i64 (a+h))-1))-b))) (
  some (.inr (.inl ()))) (
  (gR x).bind fun d=>
  br (!d) (
  some (.inr (.inl ()))) (
  some (.inl (wrap .i64 (b+1)))))) (
  some (.inr (.inr (b,decide (b<e)))))
abbrev v7 (c:List Ext) (e:List (List (List UInt8))) (b d a:Int):List (Nat×Blk):=[(1000,⟨2,true,[[sl eExt c,sl (eL eS) e]]⟩),(1001,⟨3,true,[[I b,I d,I a]]⟩)]
theorem UI {a j k c d i f b}:LX tab ow (.close [7012]) Jw (kH a j k c d i f b) (fun s=>⟨[(1,I a),(5,.ptr 1001 0 0 1),(29,sl (eL eS) j),(30,I k),(31,I s)],v7 c d i f b⟩) (alt (fun e=>((.ret,⟨[(6,B false)],v7 c d i f b⟩):bT×St)) (fun e=>(.exit 0,⟨[(1,I a),(5,.ptr 1001 0 0 1),(29,sl (eL eS) j),(30,I k),(31,I e.1),(32,B e.2)],v7 c d i f b⟩))):=by
 refine lrX (fun s o h=> ?_)
 simp only [kH] at h
 simp only [v7,Jw,Jd]
 have d1:= @tr
 exact go2
def yj (q:Query) (a:Int) (t:Setting):Option (Bool):=
 br (((q.Pairs.length:Nat):Int) !=(wrap .i64 (2*a))) (
 some false) (
 (gr q.Pairs).bind fun b=>
 br (!b) (
 some false) (
 br (((q.Paths.length:Nat):Int) !=a) (
 some false) (
 (Loop (kH a q.Paths ((q.Paths.length:Nat):Int) q.Pairs q.Paths t.Rate t.Queries t.Grind) 0).bind (alt (fun d=>
 some false) (fun c=>
 some true)))))
theorem a4P {q a t r} (h:yj q a t=some r):Call tab ow 122 [.agg [sl eExt q.Pairs,sl (eL eS) q.Paths],I a,.agg [I t.Rate,I t.Queries,I t.Grind]] []=some (B r,[]):=by
 rw [aj (af:=zS) rfl]
 unfold yj at h
 simp only [zS,GQ]
 have d1:= @pz
 have d2:= @UI
 exact go2
def uz (q:Query) (m:Int) (a:Setting):Option (Bool×Int×Setting):=
 (yj q m a).bind fun b=>
 some (b,m,a)
theorem Pj {q m a r} (h:uz q m a=some r):Call tab ow 121 [.agg [sl eExt q.Pairs,sl (eL eS) q.Paths],.ptr 0 0 0 1,.ptr 1 0 0 1] [⟨1,true,[[I m]]⟩,⟨3,true,[[I a.Rate,I a.Queries,I a.Grind]]⟩]=some (B r.1,[⟨1,true,[[I r.2.1]]⟩,⟨3,true,[[I r.2.2.Rate,I r.2.2.Queries,I r.2.2.Grind]]⟩]):=by
 rw [aj (af:=qU) rfl]
 unfold uz at h
 simp only [qU,Ez]
 have d1:= @a4P
 exact go2
def dx (x:Query) (m:Int) (b:Setting):Option (Bool×Int×Setting):=
 (uz x m b).bind fun a=>
 some ((!a.1),a.2.1,a.2.2)
theorem vE {x m a r} (h:dx x m a=some r):Call tab ow 241 [.agg [sl eExt x.Pairs,sl (eL eS) x.Paths],.ptr 0 0 0 1] [⟨1,true,[[.fn 121 [.ptr 1 0 0 1,.ptr 2 0 0 1]]]⟩,⟨1,true,[[I m]]⟩,⟨3,true,[[I a.Rate,I a.Queries,I a.Grind]]⟩]=some (B r.1,[⟨1,true,[[.fn 121 [.ptr 1 0 0 1,.ptr 2 0 0 1]]]⟩,⟨1,true,[[I r.2.1]]⟩,⟨3,true,[[I r.2.2.Rate,I r.2.2.Queries,I r.2.2.Grind]]⟩]):=by
 rw [aj (af:=nL) rfl]
 unfold dx at h
 simp only [nL,An]
 have d1:= @Pj
 exact go2
def bn (h:List Query) (t:Int):Int×Int×Int×Int×Int->Option ((Int×Int×Int×Int×Int)⊕((Int×Int×Int×Int×Int)⊕(Int×Bool×Int×Int×Int×Int)))
 | (b,c,d,f,e)=>
   br (decide (b<t)) (
   (atL h b).bind fun x=>
   (dx x c (Setting.mk d f e)).bind fun a=>
   br a.1 (
   some (.inr (.inl (b,a.2.1,a.2.2.Rate,a.2.2.Queries,a.2.2.Grind)))) (
   some (.inl ((wrap .i64 (b+1)),a.2.1,a.2.2.Rate,a.2.2.Queries,a.2.2.Grind)))) (
   some (.inr (.inr (b,decide (b<t),c,d,f,e))))
abbrev bK (c d b a:Int):List (Nat×Blk):=[(0,⟨1,true,[[.fn 121 [.ptr 1 0 0 1,.ptr 2 0 0 1]]]⟩),(1,⟨1,true,[[I c]]⟩),(2,⟨3,true,[[I d,I b,I a]]⟩)]
theorem gp {a t}:LX tab ow (.close [5005]) iJ (bn a t) (fun s=>⟨[(0,sl eQuery a),(1,.fn 241 [.ptr 0 0 0 1]),(7,I t),(8,I s.1)],bK s.2.1 s.2.2.1 s.2.2.2.1 s.2.2.2.2⟩) (alt (fun e=>((.ret,⟨[(4,I e.1)],bK e.2.1 e.2.2.1 e.2.2.2.1 e.2.2.2.2⟩):bT×St)) (fun e=>(.exit 0,⟨[(0,sl eQuery a),(1,.fn 241 [.ptr 0 0 0 1]),(7,I t),(8,I e.1),(9,B e.2.1)],bK e.2.2.1 e.2.2.2.1 e.2.2.2.2.1 e.2.2.2.2.2⟩))):=by
 refine lrX (fun s o h=> ?_)
 obtain ⟨_,_,_,_,_⟩:=s
 simp only [bn] at h
 simp only [bK,iJ,iL]
 have d1:= @vE
 exact go2
def bQ (s:(List Query)) (m:Int) (c:Setting):Option (Int×Int×Setting):=
 (Loop (bn s ((s.length:Nat):Int)) (0,m,c.Rate,c.Queries,c.Grind)).bind (alt (fun a=>
 some (a.1,a.2.1,(Setting.mk a.2.2.1 a.2.2.2.1 a.2.2.2.2))) (fun b=>
 some ((-1:Int),b.2.2.1,(Setting.mk b.2.2.2.1 b.2.2.2.2.1 b.2.2.2.2.2))))
theorem gS {s m a r} (h:bQ s m a=some r):Call tab ow 334 [sl eQuery s,.fn 241 [.ptr 0 0 0 1]] [⟨1,true,[[.fn 121 [.ptr 1 0 0 1,.ptr 2 0 0 1]]]⟩,⟨1,true,[[I m]]⟩,⟨3,true,[[I a.Rate,I a.Queries,I a.Grind]]⟩]=some (I r.1,[⟨1,true,[[.fn 121 [.ptr 1 0 0 1,.ptr 2 0 0 1]]]⟩,⟨1,true,[[I r.2.1]]⟩,⟨3,true,[[I r.2.2.Rate,I r.2.2.Queries,I r.2.2.Grind]]⟩]):=by
 rw [aj (af:=dM) rfl]
 unfold bQ at h
 simp only [dM,fK]
 have d1:= @gp
 exact go2
def bM (s:(List Query)) (m:Int) (b:Setting):Option (Bool×Int×Setting):=
 (bQ s m b).bind fun a=>
 some (decide (a.1>=0),a.2.1,a.2.2)
theorem gn {s m a r} (h:bM s m a=some r):Call tab ow 240 [sl eQuery s,.fn 241 [.ptr 0 0 0 1]] [⟨1,true,[[.fn 121 [.ptr 1 0 0 1,.ptr 2 0 0 1]]]⟩,⟨1,true,[[I m]]⟩,⟨3,true,[[I a.Rate,I a.Queries,I a.Grind]]⟩]=some (B r.1,[⟨1,true,[[.fn 121 [.ptr 1 0 0 1,.ptr 2 0 0 1]]]⟩,⟨1,true,[[I r.2.1]]⟩,⟨3,true,[[I r.2.2.Rate,I r.2.2.Queries,I r.2.2.Grind]]⟩]):=by
 rw [aj (af:=dq) rfl]
 unfold bM at h
 simp only [dq,iz]
 have d1:= @gS
 exact go2
def hZ (a:(List Query)) (m:Int) (c:Setting):Option (Bool×Int×Setting):=
 (bM a m c).bind fun b=>
 some ((!b.1),b.2.1,b.2.2)
theorem y5 {a m b r} (h:hZ a m b=some r):Call tab ow 120 [.fn 121 [.ptr 0 0 0 1,.ptr 1 0 0 1],sl eQuery a] [⟨1,true,[[I m]]⟩,⟨3,true,[[I b.Rate,I b.Queries,I b.Grind]]⟩]=some (B r.1,[⟨1,true,[[I r.2.1]]⟩,⟨3,true,[[I r.2.2.Rate,I r.2.2.Queries,I r.2.2.Grind]]⟩]):=by
 rw [aj (af:=qA) rfl]
 unfold hZ at h
 simp only [qA,ES]
 have d1:= @gn
 exact go2
def wg (b:Opening) (a:Int) (t:Setting):Option (Bool):=
 (jJ a 1 6).bind fun j=>
 br j (
 (oe t).bind fun f=>
 br f (
 (oA b.Rounds a 3).bind fun i=>
 br i (
 br (((b.Roots.length:Nat):Int)==(wrap .i64 (a-1))) (
 (gR b.Roots).bind fun h=>
 br h (
 (uk b.Last).bind fun c=>
 br c (
 (jJ b.Nonce 0 65535).bind fun e=>
 br e (
 br (((b.Queries.length:Nat):Int)==t.Queries) (
 (hZ b.Queries a t).bind fun d=>
 some d.1) (
 some false)) (
 some false)) (
 some false)) (
 some false)) (
 some false)) (
 some false)) (
 some false)) (
 some false)
theorem V9 {b a t r} (h:wg b a t=some r):Call tab ow 33 [.agg [sl (eL eExt) b.Rounds,sl eS b.Roots,I b.Last.A,I b.Last.B,I b.Nonce,sl eQuery b.Queries],I a,.agg [I t.Rate,I t.Queries,I t.Grind]] []=some (B r,[]):=by
 rw [aj (af:=uV) rfl]
 unfold wg at h
 simp only [uV,Ip]
 have d1:= @zG
 have d2:= @B1
 have d3:= @J2
 have d4:= @tr
 have d5:= @NF
 have d6:= @y5
 exact go2
def C9 (p:Proof) (s:bk) (t:Setting):Option (Bool):=
 (tV s).bind fun k=>
 br k (
 (oe t).bind fun f=>
 br f (
 (we p.Root).bind fun i=>
 br i (
 (oA p.Gates s.Rows 4).bind fun h=>
 br h (
 (uk p.VA).bind fun b=>
 br b (
 (uk p.VB).bind fun e=>
 br e (
 (uk p.VC).bind fun c=>
 br c (
 (oA p.Wires s.Cols 3).bind fun d=>
 br d (
 (uk p.VW).bind fun j=>
 br j (
 (wg p.Open (wrap .i64 (s.Cols-1)) t).bind fun a=>
 some a) (
 some false)) (
 some false)) (
 some false)) (
 some false)) (
 some false)) (
 some false)) (
 some false)) (
 some false)) (
 some false)
theorem a2J {p s t r} (h:C9 p s t=some r):Call tab ow 63 [.agg [S p.Root,sl (eL eExt) p.Gates,I p.VA.A,I p.VA.B,I p.VB.A,I p.VB.B,I p.VC.A,I p.VC.B,sl (eL eExt) p.Wires,I p.VW.A,I p.VW.B,sl (eL eExt) p.Open.Rounds,sl eS p.Open.Roots,I p.Open.Last.A,I p.Open.Last.B,I p.Open.Nonce,sl eQuery p.Open.Queries],.agg [I s.Rows,I s.Cols,I s.Publics,sl aA s.A,sl aA s.B,sl aA s.C],.agg [I t.Rate,I t.Queries,I t.Grind]] []=some (B r,[]):=by
 rw [aj (af:=AO) rfl]
 unfold C9 at h
 simp only [AO,Om]
 have d1:= @Lj
 have d2:= @B1
 have d3:= @E3
 have d4:= @J2
 have d5:= @NF
 have d6:= @V9
 exact go2
def ws (s:bk) (t:Setting) (a:(List Int)) (b:Source):Option (Int):=
 br (decide (((a.length:Nat):Int)>4096)) (
 some 2) (
 (tV s).bind fun h=>
 br (!h) (
 some 1) (
 (oe t).bind fun d=>
 br (!d) (
 some 1) (
 (ky a).bind fun f=>
 br (!f) (
 some 1) (
 (yV b).bind fun e=>
 br (!e) (
 some 1) (
 br (((a.length:Nat):Int) !=s.Publics) (
 some 17) (
 (uR b).bind fun c=>
 br (decide (c<200)) (
 some 6) (
 some 0)))))))
theorem V5 {s t b a r} (h:ws s t b a=some r):Call tab ow 88 [.agg [I s.Rows,I s.Cols,I s.Publics,sl aA s.A,sl aA s.B,sl aA s.C],.agg [I t.Rate,I t.Queries,I t.Grind],sl eI b,.agg [sl eExt a.Script,I a.At,S a.State,I a.Count]] []=some (I r,[]):=by
 rw [aj (af:=vo) rfl]
 unfold ws at h
 simp only [vo,Jc]
 have d1:= @Lj
 have d2:= @B1
 have d3:= @Ib
 have d4:= @Zf
 have d5:= @Pe
 exact go2
def mi (d:List Ext) (i:Int) (t:List Ext) (v w k q l u p r n m o:Int):Int×Int×Int->Option ((Int×Int×Int)⊕((Int×Bool×Int×Int)))
 | (a,b,c)=>
   br (decide (a<k)) (
   br (a !=i) (
   (iw (Ext.mk q l) (Ext.mk a 0)).bind fun s=>
   (dd (Ext.mk b c) s).bind fun h=>
   (RT i a).bind fun j=>
   (u3 j).bind fun f=>
   (is h f).bind fun e=>
   some (.inl ((wrap .i64 (a+1)),e.A,e.B))) (
   some (.inl ((wrap .i64 (a+1)),b,c)))) (
   some (.inr (a,decide (a<k),b,c)))
abbrev Da (k i j b c d a f h e:Int):List (Nat×Blk):=[(1000,⟨2,true,[[I k,I i]]⟩),(1001,⟨2,true,[[I j,I b]]⟩),(2001,⟨2,true,[[I c,I d]]⟩),(5003,⟨2,true,[[I a,I f]]⟩),(6001,⟨2,true,[[I h,I e]]⟩)]
theorem Zc {a i n r k m q l p c d f b j}:LX tab ow (.close [11004,11005,11008,11009,11010]) Lv (mi a i n r k m q l p c d f b j) (fun s=>⟨[(0,sl eExt a),(3,.ptr 1000 0 0 1),(4,.ptr 1001 0 0 1),(5,.ptr 2001 0 0 1),(6,I i),(8,.ptr 6001 0 0 1),(11,sl eExt n),(12,I r),(13,I k),(20,I m),(21,I s.1)],Da q l p c d f b j s.2.1 s.2.2⟩) (fun e=>(.exit 2,⟨[(0,sl eExt a),(3,.ptr 1000 0 0 1),(4,.ptr 1001 0 0 1),(5,.ptr 2001 0 0 1),(6,I i),(8,.ptr 6001 0 0 1),(11,sl eExt n),(12,I r),(13,I k),(20,I m),(21,I e.1),(22,B e.2.1)],Da q l p c d f b j e.2.2.1 e.2.2.2⟩)):=by
 refine lrX (fun s o h=> ?_)
 obtain ⟨_,_,_⟩:=s
 simp only [mi] at h
 simp only [Da,Lv,Lh]
 have d1:= @nm
 have d2:= @fc
 have d3:= @a90
 have d4:= @OT
 have d5:= @od
 exact go2
def mo (a t:List Ext) (h c k m l:Int):Int×Int×Int->Option ((Int×Int×Int)⊕((Int×Bool×Int×Int)))
 | (b,f,i)=>
   br (decide (b<h)) (
   (atL t b).bind fun e=>
   (Loop (mi a b t h b ((a.length:Nat):Int) c k m l f i e.A e.B) (0,e.A,e.B)).bind fun j=>
   (fT (Ext.mk f i) (Ext.mk j.2.2.1 j.2.2.2)).bind fun d=>
   some (.inl ((wrap .i64 (b+1)),d.A,d.B))) (
   some (.inr (b,decide (b<h),f,i)))
abbrev DR (c b f d a e:Int):List (Nat×Blk):=[(1000,⟨2,true,[[I c,I b]]⟩),(1001,⟨2,true,[[I f,I d]]⟩),(2001,⟨2,true,[[I a,I e]]⟩)]
theorem a0g {a t d c b i f}:LX tab ow (.close [5003,6001,11004,11005,11008,11009,11010,13002]) M2 (mo a t d c b i f) (fun s=>⟨[(0,sl eExt a),(3,.ptr 1000 0 0 1),(4,.ptr 1001 0 0 1),(5,.ptr 2001 0 0 1),(11,sl eExt t),(12,I d),(13,I s.1)],DR c b i f s.2.1 s.2.2⟩) (fun e=>(.exit 0,⟨[(0,sl eExt a),(3,.ptr 1000 0 0 1),(4,.ptr 1001 0 0 1),(5,.ptr 2001 0 0 1),(11,sl eExt t),(12,I d),(13,I e.1),(14,B e.2.1)],DR c b i f e.2.2.1 e.2.2.2⟩)):=by
 refine lrX (fun s o h=> ?_)
 obtain ⟨_,_,_⟩:=s
 simp only [mo] at h
 simp only [DR,M2,Mb]
 have d1:= @Zc
 have d2:= @ip
 exact go2
def BR (a:(List Ext)) (x:Ext):Option (Ext):=
 (Loop (mo a a ((a.length:Nat):Int) x.A x.B 0 0) (0,0,0)).bind fun b=>
 some (Ext.mk b.2.2.1 b.2.2.2)
theorem Uk {a x r} (h:BR a x=some r):Call tab ow 326 [sl eExt a,.agg [I x.A,I x.B]] []=some (.agg [I r.A,I r.B],[]):=by
 rw [aj (af:=CY) rfl]
 unfold BR at h
 simp only [CY,DD]
 have d1:= @a0g
 exact go2
def Ng (a:Int):Option (Unit):=
 some ()
theorem a37 {a r} (h:Ng a=some r):Call tab ow 298 [I a] []=some (.tup [],[]):=by
 rw [aj (af:=zM) rfl]
 unfold Ng at h
 simp only [zM,Oq]
 exact go2
section
theorem vC:mkR 2000 []=rws eExt []:=rfl
attribute [local go_sem] vC
theorem vO:mkR 12005 []=rws eExt []:=rfl
attribute [local go_sem] vO
def bJ (b:Int) (t:List (List Ext)) (o v u:Int):(List Ext)×Int×(List Ext)×Int×(List UInt8)×Int×Int×Int->Option (((List Ext)×Int×(List Ext)×Int×(List UInt8)×Int×Int×Int)⊕(((List Ext)×Int×(List Ext)×Int×(List UInt8)×Int×Int×Int)⊕((List Ext)×Int×Bool×(List Ext)×Int×(List UInt8)×Int×Int×Int)))
 | (l,d,c,h,m,j,f,k)=>
   br (decide (d<o)) (
   (atL t d).bind fun x=>
   (rm b).bind fun r=>
   br (((x.length:Nat):Int) !=(wrap .i64 (r+1))) (
   some (.inr (.inl (l,18,c,h,m,j,f,k)))) (
   (atL x 0).bind fun p=>
   (atL x 1).bind fun s=>
   (fT p s).bind fun i=>
   br (i.A==f) (
   br (i.B==k) (
   (cY x (Source.mk c h m j)).bind fun n=>
   (jk n).bind fun a=>
   (BR x a.1).bind fun e=>
   br (cP ((l++([a.1]:List Ext)).length) 16) (
   (Ng d).bind fun q=>
   some (.inl ((l++([a.1]:List Ext)),(wrap .i64 (d+1)),a.2.Script,a.2.At,a.2.State,a.2.Count,e.A,e.B))) none) (
   some (.inr (.inl (l,10,c,h,m,j,f,k))))) (
   some (.inr (.inl (l,10,c,h,m,j,f,k)))))) (
   some (.inr (.inr (l,d,decide (d<o),c,h,m,j,f,k))))
abbrev im (e a:Int) (l c:List Ext) (d:Int) (i:List UInt8) (f b h:Int):List (Nat×Blk):=[(0,⟨4,true,[[sl eExt c,I d,S i,I f]]⟩),(1000,⟨2,true,[[I b,I h]]⟩),(1002,⟨2,true,[[I e,I a]]⟩),(2000,⟨2,false,rws eExt l⟩)]
theorem ud {a t d c b}:LX tab ow (.close [6003,8006,10002,11001,11002,12002,12005,12006,13002]) je (bJ a t d c b) (fun s=>⟨[(0,.ptr 0 0 0 1),(1,I a),(4,.fn 298 []),(7,.ptr 1000 0 0 1),(11,.ptr 1002 0 0 1),(13,.sl 2000 0 s.1.length),(18,sl (eL eExt) t),(19,I d),(20,I s.2.1)],im c b s.1 s.2.2.1 s.2.2.2.1 s.2.2.2.2.1 s.2.2.2.2.2.1 s.2.2.2.2.2.2.1 s.2.2.2.2.2.2.2⟩) (alt (fun e=>((.ret,⟨[(10,.lit (.slice none 0 0)),(11,.ptr 1002 0 0 1),(12,I e.2.1)],[(0,⟨4,true,[[sl eExt e.2.2.1,I e.2.2.2.1,S e.2.2.2.2.1,I e.2.2.2.2.2.1]]⟩),(1000,⟨2,true,[[I e.2.2.2.2.2.2.1,I e.2.2.2.2.2.2.2]]⟩),(1002,⟨2,true,[[I 0,I 0]]⟩),(2000,⟨2,false,rws eExt e.1⟩)]⟩):bT×St)) (fun e=>(.exit 0,⟨[(0,.ptr 0 0 0 1),(1,I a),(4,.fn 298 []),(7,.ptr 1000 0 0 1),(11,.ptr 1002 0 0 1),(13,.sl 2000 0 e.1.length),(18,sl (eL eExt) t),(19,I d),(20,I e.2.1),(21,B e.2.2.1)],im c b e.1 e.2.2.2.1 e.2.2.2.2.1 e.2.2.2.2.2.1 e.2.2.2.2.2.2.1 e.2.2.2.2.2.2.2.1 e.2.2.2.2.2.2.2.2⟩))):=by
 refine lrX (fun s o h=> ?_)
 obtain ⟨_,_,_,_,_,_,_,_⟩:=s
 simp only [bJ] at h
 simp only [im,je,mP]
 have d1:= @Ll
 have d2:= @ip
 have d3:= @jS
 have d4:= @wG
 have d5:= @Uk
 have d6:= @a37
 exact go2
def cN (e:Int) (c:Ext) (b:(List (List Ext))) (m:Source):Option ((List Ext)×Ext×Int×Source):=
 (Loop (bJ e b ((b.length:Nat):Int) 0 0) (([]:List Ext),0,m.Script,m.At,m.State,m.Count,c.A,c.B)).bind (alt (fun d=>
 some (([]:List Ext),(Ext.mk 0 0),d.2.1,(Source.mk d.2.2.1 d.2.2.2.1 d.2.2.2.2.1 d.2.2.2.2.2.1))) (fun a=>
 some (a.1,(Ext.mk a.2.2.2.2.2.2.2.1 a.2.2.2.2.2.2.2.2),0,(Source.mk a.2.2.2.1 a.2.2.2.2.1 a.2.2.2.2.2.1 a.2.2.2.2.2.2.1))))
theorem wP {c a b m r} (h:cN c a b m=some r):Call tab ow 219 [.ptr 0 0 0 1,I c,.agg [I a.A,I a.B],sl (eL eExt) b,.fn 298 []] [⟨4,true,[[sl eExt m.Script,I m.At,S m.State,I m.Count]]⟩]=some (.tup [sl eExt r.1,.agg [I r.2.1.A,I r.2.1.B],I r.2.2.1],[⟨4,true,[[sl eExt r.2.2.2.Script,I r.2.2.2.At,S r.2.2.2.State,I r.2.2.2.Count]]⟩]):=by
 rw [aj (af:=fY) rfl]
 unfold cN at h
 simp only [fY,kB]
 have d1:= @ud
 exact go2
end
def rD (l t:List Ext) (m c r:Int):Int×Int×Int->Option ((Int×Int×Int)⊕((Int×Bool×Int×Int)))
 | (a,o,n)=>
   br (decide (a<m)) (
   (atL t a).bind fun x=>
   (atL l a).bind fun p=>
   (dd x p).bind fun j=>
   (NK).bind fun i=>
   (iw i x).bind fun k=>
   (NK).bind fun d=>
   (atL l a).bind fun q=>
   (iw d q).bind fun h=>
   (dd k h).bind fun e=>
   (fT j e).bind fun f=>
   (dd (Ext.mk o n) f).bind fun b=>
   some (.inl ((wrap .i64 (a+1)),b.A,b.B))) (
   some (.inr (a,decide (a<m),o,n)))
abbrev Kz (c d b a:Int):List (Nat×Blk):=[(1000,⟨2,true,[[I c,I d]]⟩),(2001,⟨2,true,[[I b,I a]]⟩)]
theorem a7m {d t b c a}:LX tab ow (.close [5003,6006,6007,6009,6010,6015,6016,6017,6018]) TO (rD d t b c a) (fun s=>⟨[(1,sl eExt d),(4,.ptr 1000 0 0 1),(5,.ptr 2001 0 0 1),(9,sl eExt t),(10,I b),(11,I s.1)],Kz c a s.2.1 s.2.2⟩) (fun e=>(.exit 0,⟨[(1,sl eExt d),(4,.ptr 1000 0 0 1),(5,.ptr 2001 0 0 1),(9,sl eExt t),(10,I b),(11,I e.1),(12,B e.2.1)],Kz c a e.2.2.1 e.2.2.2⟩)):=by
 refine lrX (fun s o h=> ?_)
 obtain ⟨_,_,_⟩:=s
 simp only [rD] at h
 simp only [Kz,TO,QG]
 have d1:= @fc
 have d2:= @Qa
 have d3:= @nm
 have d4:= @ip
 exact go2
def Kr (a b:(List Ext)):Option (Ext):=
 (NK).bind fun c=>
 (Loop (rD b a ((a.length:Nat):Int) 0 0) (0,c.A,c.B)).bind fun d=>
 some (Ext.mk d.2.2.1 d.2.2.2)
theorem a2z {a b r} (h:Kr a b=some r):Call tab ow 222 [sl eExt a,sl eExt b] []=some (.agg [I r.A,I r.B],[]):=by
 rw [aj (af:=Mr) rfl]
 unfold Kr at h
 simp only [Mr,QP]
 have d1:= @Qa
 have d2:= @a7m
 exact go2
def yB (s:bk) (a:(List Int)) (b:(List Ext)):Option (Ext):=
 (mR s a ([]:List Int)).bind fun h=>
 (fe s).bind fun d=>
 (lh h 0 d).bind fun y=>
 (SV y).bind fun f=>
 (u9 b).bind fun e=>
 (KS f e).bind fun c=>
 some c
theorem XX {s a b r} (h:yB s a b=some r):Call tab ow 301 [.agg [I s.Rows,I s.Cols,I s.Publics,sl aA s.A,sl aA s.B,sl aA s.C],sl eI a,sl eExt b] []=some (.agg [I r.A,I r.B],[]):=by
 rw [aj (af:=xP) rfl]
 unfold yB at h
 simp only [xP,Mh]
 have d1:= @LZ
 have d2:= @n8
 have d3:= @b5D
 have d4:= @GA
 have d5:= @a8z
 exact go2
def lz (k m:Int) (a:Opening) (b:Source):Option (Int×Opening×Source):=
 br (decide (k<(wrap .i64 (m-1)))) (
 (atL a.Roots k).bind fun x=>
 br (cP x.length 1) (
 (fQ x b).bind fun c=>
 some (m,a,c)) none) (
 some (m,a,b))
theorem JD {k m a b r} (h:lz k m a b=some r):Call tab ow 220 [I k,.ptr 0 0 0 1,.ptr 1 0 0 1,.ptr 2 0 0 1] [⟨1,true,[[I m]]⟩,⟨1,true,[[.ptr 3 0 0 1]]⟩,⟨6,true,[[sl (eL eExt) a.Rounds,sl eS a.Roots,I a.Last.A,I a.Last.B,I a.Nonce,sl eQuery a.Queries]]⟩,⟨4,true,[[sl eExt b.Script,I b.At,S b.State,I b.Count]]⟩]=some (.tup [],[⟨1,true,[[I r.1]]⟩,⟨1,true,[[.ptr 3 0 0 1]]⟩,⟨6,true,[[sl (eL eExt) r.2.1.Rounds,sl eS r.2.1.Roots,I r.2.1.Last.A,I r.2.1.Last.B,I r.2.1.Nonce,sl eQuery r.2.1.Queries]]⟩,⟨4,true,[[sl eExt r.2.2.Script,I r.2.2.At,S r.2.2.State,I r.2.2.Count]]⟩]):=by
 rw [aj (af:=mr) rfl]
 unfold lz at h
 simp only [mr,zA]
 have d1:= @nO
 exact go2
section
theorem pR:mkR 2000 []=rws eExt []:=rfl
attribute [local go_sem] pR
theorem pL:mkR 12005 []=rws eExt []:=rfl
attribute [local go_sem] pL
def bo (i:Int) (t:List (List Ext)) (y z c15:Int):(List Ext)×Int×(List Ext)×Int×(List UInt8)×Int×Int×(List (List Ext))×(List (List UInt8))×Int×Int×Int×(List Query)×Int×Int->Option (((List Ext)×Int×(List Ext)×Int×(List UInt8)×Int×Int×(List (List Ext))×(List (List UInt8))×Int×Int×Int×(List Query)×Int×Int)⊕(((List Ext)×Int×(List Ext)×Int×(List UInt8)×Int×Int×(List (List Ext))×(List (List UInt8))×Int×Int×Int×(List Query)×Int×Int)⊕((List Ext)×Int×Bool×(List Ext)×Int×(List UInt8)×Int×Int×(List (List Ext))×(List (List UInt8))×Int×Int×Int×(List Query)×Int×Int)))
 | (l,j,c,o,v,u,n,m,r,k,q,e,f,d,b)=>
   br (decide (j<y)) (
   (atL t j).bind fun x=>
   (rm i).bind fun r_=>
   br (((x.length:Nat):Int) !=(wrap .i64 (r_+1))) (
   some (.inr (.inl (l,18,c,o,v,u,n,m,r,k,q,e,f,d,b)))) (
   (atL x 0).bind fun x2=>
   (atL x 1).bind fun x3=>
   (fT x2 x3).bind fun p=>
   br (p.A==d) (
   br (p.B==b) (
   (cY x (Source.mk c o v u)).bind fun w=>
   (jk w).bind fun h=>
   (BR x h.1).bind fun s=>
   br (cP ((l++([h.1]:List Ext)).length) 16) (
   (lz j n (Opening.mk m r (Ext.mk k q) e f) h.2).bind fun a=>
   some (.inl ((l++([h.1]:List Ext)),(wrap .i64 (j+1)),a.2.2.Script,a.2.2.At,a.2.2.State,a.2.2.Count,a.1,a.2.1.Rounds,a.2.1.Roots,a.2.1.Last.A,a.2.1.Last.B,a.2.1.Nonce,a.2.1.Queries,s.A,s.B))) none) (
   some (.inr (.inl (l,10,c,o,v,u,n,m,r,k,q,e,f,d,b))))) (
   some (.inr (.inl (l,10,c,o,v,u,n,m,r,k,q,e,f,d,b)))))) (
   some (.inr (.inr (l,j,decide (j<y),c,o,v,u,n,m,r,k,q,e,f,d,b))))
abbrev fg (f h:Int) (l c:List Ext) (k:Int) (q:List UInt8) (o j:Int) (p:List (List Ext)) (n:List (List UInt8)) (i m b:Int) (d:List Query) (e a:Int):List (Nat×Blk):=[(0,⟨4,true,[[sl eExt c,I k,S q,I o]]⟩),(1,⟨1,true,[[I j]]⟩),(2,⟨1,true,[[.ptr 0 0 0 1]]⟩),(3,⟨6,true,[[sl (eL eExt) p,sl eS n,I i,I m,I b,sl eQuery d]]⟩),(1000,⟨2,true,[[I e,I a]]⟩),(1002,⟨2,true,[[I f,I h]]⟩),(2000,⟨2,false,rws eExt l⟩)]
theorem pg {a t d c b}:LX tab ow (.close [6003,8006,10002,11001,11002,12002,12005,12006,13002]) je (bo a t d c b) (fun s=>⟨[(0,.ptr 0 0 0 1),(1,I a),(4,.fn 220 [.ptr 1 0 0 1,.ptr 2 0 0 1,.ptr 3 0 0 1]),(7,.ptr 1000 0 0 1),(11,.ptr 1002 0 0 1),(13,.sl 2000 0 s.1.length),(18,sl (eL eExt) t),(19,I d),(20,I s.2.1)],fg c b s.1 s.2.2.1 s.2.2.2.1 s.2.2.2.2.1 s.2.2.2.2.2.1 s.2.2.2.2.2.2.1 s.2.2.2.2.2.2.2.1 s.2.2.2.2.2.2.2.2.1 s.2.2.2.2.2.2.2.2.2.1 s.2.2.2.2.2.2.2.2.2.2.1 s.2.2.2.2.2.2.2.2.2.2.2.1 s.2.2.2.2.2.2.2.2.2.2.2.2.1 s.2.2.2.2.2.2.2.2.2.2.2.2.2.1 s.2.2.2.2.2.2.2.2.2.2.2.2.2.2⟩) (alt (fun e=>((.ret,⟨[(10,.lit (.slice none 0 0)),(11,.ptr 1002 0 0 1),(12,I e.2.1)],[(0,⟨4,true,[[sl eExt e.2.2.1,I e.2.2.2.1,S e.2.2.2.2.1,I e.2.2.2.2.2.1]]⟩),(1,⟨1,true,[[I e.2.2.2.2.2.2.1]]⟩),(2,⟨1,true,[[.ptr 0 0 0 1]]⟩),(3,⟨6,true,[[sl (eL eExt) e.2.2.2.2.2.2.2.1,sl eS e.2.2.2.2.2.2.2.2.1,I e.2.2.2.2.2.2.2.2.2.1,I e.2.2.2.2.2.2.2.2.2.2.1,I e.2.2.2.2.2.2.2.2.2.2.2.1,sl eQuery e.2.2.2.2.2.2.2.2.2.2.2.2.1]]⟩),(1000,⟨2,true,[[I e.2.2.2.2.2.2.2.2.2.2.2.2.2.1,I e.2.2.2.2.2.2.2.2.2.2.2.2.2.2]]⟩),(1002,⟨2,true,[[I 0,I 0]]⟩),(2000,⟨2,false,rws eExt e.1⟩)]⟩):bT×St)) (fun e=>(.exit 0,⟨[(0,.ptr 0 0 0 1),(1,I a),(4,.fn 220 [.ptr 1 0 0 1,.ptr 2 0 0 1,.ptr 3 0 0 1]),(7,.ptr 1000 0 0 1),(11,.ptr 1002 0 0 1),(13,.sl 2000 0 e.1.length),(18,sl (eL eExt) t),(19,I d),(20,I e.2.1),(21,B e.2.2.1)],fg c b e.1 e.2.2.2.1 e.2.2.2.2.1 e.2.2.2.2.2.1 e.2.2.2.2.2.2.1 e.2.2.2.2.2.2.2.1 e.2.2.2.2.2.2.2.2.1 e.2.2.2.2.2.2.2.2.2.1 e.2.2.2.2.2.2.2.2.2.2.1 e.2.2.2.2.2.2.2.2.2.2.2.1 e.2.2.2.2.2.2.2.2.2.2.2.2.1 e.2.2.2.2.2.2.2.2.2.2.2.2.2.1 e.2.2.2.2.2.2.2.2.2.2.2.2.2.2.1 e.2.2.2.2.2.2.2.2.2.2.2.2.2.2.2⟩))):=by
 refine lrX (fun s o h=> ?_)
 obtain ⟨_,_,_,_,_,_,_,_,_,_,_,_,_,_,_⟩:=s
 simp only [bo] at h
 simp only [fg,je,mP]
 have d1:= @Ll
 have d2:= @ip
 have d3:= @jS
 have d4:= @wG
 have d5:= @Uk
 have d6:= @JD
 exact go2
def dY (f:Int) (d:Ext) (c:(List (List Ext))) (m:Source) (h:Int) (e:Opening):Option ((List Ext)×Ext×Int×Source×Int×Opening):=
 (Loop (bo f c ((c.length:Nat):Int) 0 0) (([]:List Ext),0,m.Script,m.At,m.State,m.Count,h,e.Rounds,e.Roots,e.Last.A,e.Last.B,e.Nonce,e.Queries,d.A,d.B)).bind (alt (fun b=>
 some (([]:List Ext),(Ext.mk 0 0),b.2.1,(Source.mk b.2.2.1 b.2.2.2.1 b.2.2.2.2.1 b.2.2.2.2.2.1),b.2.2.2.2.2.2.1,(Opening.mk b.2.2.2.2.2.2.2.1 b.2.2.2.2.2.2.2.2.1 (Ext.mk b.2.2.2.2.2.2.2.2.2.1 b.2.2.2.2.2.2.2.2.2.2.1) b.2.2.2.2.2.2.2.2.2.2.2.1 b.2.2.2.2.2.2.2.2.2.2.2.2.1))) (fun a=>
 some (a.1,(Ext.mk a.2.2.2.2.2.2.2.2.2.2.2.2.2.2.1 a.2.2.2.2.2.2.2.2.2.2.2.2.2.2.2),0,(Source.mk a.2.2.2.1 a.2.2.2.2.1 a.2.2.2.2.2.1 a.2.2.2.2.2.2.1),a.2.2.2.2.2.2.2.1,(Opening.mk a.2.2.2.2.2.2.2.2.1 a.2.2.2.2.2.2.2.2.2.1 (Ext.mk a.2.2.2.2.2.2.2.2.2.2.1 a.2.2.2.2.2.2.2.2.2.2.2.1) a.2.2.2.2.2.2.2.2.2.2.2.2.1 a.2.2.2.2.2.2.2.2.2.2.2.2.2.1))))
theorem pW {c a b m e d r} (h:dY c a b m e d=some r):Call tab ow 219 [.ptr 0 0 0 1,I c,.agg [I a.A,I a.B],sl (eL eExt) b,.fn 220 [.ptr 1 0 0 1,.ptr 2 0 0 1,.ptr 3 0 0 1]] [⟨4,true,[[sl eExt m.Script,I m.At,S m.State,I m.Count]]⟩,⟨1,true,[[I e]]⟩,⟨1,true,[[.ptr 0 0 0 1]]⟩,⟨6,true,[[sl (eL eExt) d.Rounds,sl eS d.Roots,I d.Last.A,I d.Last.B,I d.Nonce,sl eQuery d.Queries]]⟩]=some (.tup [sl eExt r.1,.agg [I r.2.1.A,I r.2.1.B],I r.2.2.1],[⟨4,true,[[sl eExt r.2.2.2.1.Script,I r.2.2.2.1.At,S r.2.2.2.1.State,I r.2.2.2.1.Count]]⟩,⟨1,true,[[I r.2.2.2.2.1]]⟩,⟨1,true,[[.ptr 0 0 0 1]]⟩,⟨6,true,[[sl (eL eExt) r.2.2.2.2.2.Rounds,sl eS r.2.2.2.2.2.Roots,I r.2.2.2.2.2.Last.A,I r.2.2.2.2.2.Last.B,I r.2.2.2.2.2.Nonce,sl eQuery r.2.2.2.2.2.Queries]]⟩]):=by
 rw [aj (af:=fY) rfl]
 unfold dY at h
 simp only [fY,kB]
 have d1:= @pg
 exact go2
end
def Cn (b:(List UInt8)):Option (Bool):=
 (we b).bind fun a=>
 some (!a)
theorem a2K {a r} (h:Cn a=some r):Call tab ow 370 [S a] []=some (B r,[]):=by
 rw [aj (af:=AM) rfl]
 unfold Cn at h
 simp only [AM,On]
 have d1:= @E3
 exact go2
def cV (c:List (List UInt8)) (t:Int):Int->Option ((Int)⊕(Int⊕(Int×Bool)))
 |a=>
  br (decide (a<t)) (
  (atL c a).bind fun x=>
  (Cn x).bind fun b=>
  br b (
  some (.inr (.inl a))) (
  some (.inl (wrap .i64 (a+1))))) (
  some (.inr (.inr (a,decide (a<t)))))
theorem ma {a t}:LX tab ow (.close [5005]) dN (cV a t) (fun s=>⟨[(0,sl eS a),(1,.fn 370 []),(7,I t),(8,I s)],[]⟩) (alt (fun e=>((.ret,⟨[(4,I e)],[]⟩):bT×St)) (fun e=>(.exit 0,⟨[(0,sl eS a),(1,.fn 370 []),(7,I t),(8,I e.1),(9,B e.2)],[]⟩))):=by
 refine lrX (fun s o h=> ?_)
 simp only [cV] at h
 simp only [dN,fG]
 have d1:= @a2K
 exact go2
def dj (s:(List (List UInt8))):Option (Int):=
 (Loop (cV s ((s.length:Nat):Int)) 0).bind (alt (fun a=>
 some a) (fun b=>
 some (-1:Int)))
theorem mU {s r} (h:dj s=some r):Call tab ow 333 [sl eS s,.fn 370 []] []=some (I r,[]):=by
 rw [aj (af:=cM) rfl]
 unfold dj at h
 simp only [cM,ea]
 have d1:= @ma
 exact go2
def cw (s:(List (List UInt8))):Option (Bool):=
 (dj s).bind fun a=>
 some (decide (a>=0))
theorem lu {s r} (h:cw s=some r):Call tab ow 238 [sl eS s,.fn 370 []] []=some (B r,[]):=by
 rw [aj (af:=cy) rfl]
 unfold cw at h
 simp only [cy,fy]
 have d1:= @mU
 exact go2
section
theorem a6G:mkR 2002 []=rws eS []:=rfl
attribute [local go_sem] a6G
theorem a6D:mkR 9004 []=rws eS []:=rfl
attribute [local go_sem] a6D
def oj (f:Int) (t:List (List UInt8)) (e:Int):(List (List UInt8))×Int->Option (((List (List UInt8))×Int)⊕(((List (List UInt8))×Int×Bool)))
 | (l,a)=>
   br (decide (a<e)) (
   (atL t a).bind fun x=>
   br (decide (0<=a)) (
   br (decide (a.toNat<l.length)) (
   (l[a.toNat]?).bind fun h=>
   (BW h).bind fun c=>
   br (decide (0<=a)) (
   br ((dc .i64 (bY .i64 f a) 1)==1) (
   (tF x c).bind fun b=>
   br (cP ((l++([b]:List (List UInt8))).length) 16) (
   some (.inl ((l++([b]:List (List UInt8))),(wrap .i64 (a+1))))) none) (
   (tF c x).bind fun d=>
   br (cP ((l++([d]:List (List UInt8))).length) 16) (
   some (.inl ((l++([d]:List (List UInt8))),(wrap .i64 (a+1))))) none)) none) none) none) (
   some (.inr (l,a,decide (a<e))))
theorem a33 {a t b}:LX tab ow (.close [6004,9003,9004,9005]) NX (oj a t b) (fun s=>⟨[(0,I a),(7,.sl 2002 0 s.1.length),(14,sl eS t),(15,I b),(16,I s.2)],[(2002,⟨1,false,rws eS s.1⟩)]⟩) (fun e=>(.exit 0,⟨[(0,I a),(7,.sl 2002 0 e.1.length),(14,sl eS t),(15,I b),(16,I e.2.1),(17,B e.2.2)],[(2002,⟨1,false,rws eS e.1⟩)]⟩)):=by
 refine lrX (fun s o h=> ?_)
 obtain ⟨_,_⟩:=s
 simp only [oj] at h
 simp only [NX,OM]
 have d1:= @Uh
 have d2:= @ZM
 exact go2
def Mi (i:Int) (b:(List UInt8)) (a:(List (List UInt8))):Option ((List (List UInt8))):=
 (yz b).bind fun c=>
 (Loop (oj i a ((a.length:Nat):Int)) (([c]:List (List UInt8)),0)).bind fun d=>
 some d.1
theorem b1H {i b a r} (h:Mi i b a=some r):Call tab ow 371 [I i,S b,sl eS a] []=some (sl eS r,[]):=by
 rw [aj (af:=HD) rfl]
 unfold Mi at h
 simp only [HD,Nu]
 have d1:= @ZR
 have d2:= @a33
 exact go2
end
def Hl (d:(List UInt8)) (n i:Int) (b:(List UInt8)) (a:(List (List UInt8))):Option (Bool):=
 br (decide (((b.length:Nat):Int)>64)) (
 some false) (
 (KY n).bind fun h=>
 br (((a.length:Nat):Int) !=h) (
 some false) (
 (cw a).bind fun e=>
 br e (
 some false) (
 (Mi i b a).bind fun c=>
 (atL c (wrap .i64 (((c.length:Nat):Int)-1))).bind fun x=>
 (BW x).bind fun f=>
 some (f==d))))
theorem b1f {c n i a b r} (h:Hl c n i a b=some r):Call tab ow 327 [S c,I n,I i,S a,sl eS b] []=some (B r,[]):=by
 rw [aj (af:=Hu) rfl]
 unfold Hl at h
 simp only [Hu,Xy]
 have d1:= @X8
 have d2:= @lu
 have d3:= @b1H
 have d4:= @Uh
 exact go2
section
theorem OZ:mkR 8006 []=rws eExt []:=rfl
attribute [local go_sem] OZ
def ff (t:List Ext) (f:Int) (v:List (List UInt8)) (p:Int) (c:List (List Ext)) (c2:List (List UInt8)) (c3 c4 c5:Int) (c6:List Query) (o:List Ext) (q:List (List (List UInt8))):Int×Int×Int×Int->Option ((Int×Int×Int×Int)⊕((Int×Int×Int×Int×Int×Int)⊕(Int×Int×Int×Int×Int×Int×Int×Int)⊕(Int×Int×Bool×Int×Int)))
 | (h,a,i,e)=>
   br (decide (a<p)) (
   (atL v a).bind fun x=>
   br (decide (0<=a)) (
   br (decide ((wrap .i64 ((bY .i64 f a).tdiv 2))≠0)) (
   (atL o (wrap .i64 (2*a))).bind fun b=>
   (atL o (wrap .i64 ((wrap .i64 (2*a))+1))).bind fun d=>
   (tH ([b,d]:List Ext)).bind fun y=>
   (atL q a).bind fun w=>
   (Hl x (wrap .i64 ((bY .i64 f a).tdiv 2)) (h.tmod (wrap .i64 ((bY .i64 f a).tdiv 2))) y w).bind fun n=>
   br (!n) (
   some (.inr (.inl (i,e,b.A,b.B,d.A,d.B)))) (
   br (decide (h>=(wrap .i64 ((bY .i64 f a).tdiv 2)))) (
   br (decide (a>0)) (
   br (d.A==i) (
   br (d.B==e) (
   (atL t a).bind fun s=>
   (oi (bY .i64 f a) (h.tmod (wrap .i64 ((bY .i64 f a).tdiv 2))) b d s).bind fun k=>
   some (.inl ((h.tmod (wrap .i64 ((bY .i64 f a).tdiv 2))),(wrap .i64 (a+1)),k.A,k.B))) (
   some (.inr (.inr (.inl (i,e,b.A,b.B,d.A,d.B,d.A,d.B)))))) (
   some (.inr (.inr (.inl (i,e,b.A,b.B,d.A,d.B,d.A,d.B)))))) (
   (atL t a).bind fun r=>
   (oi (bY .i64 f a) (h.tmod (wrap .i64 ((bY .i64 f a).tdiv 2))) b d r).bind fun j=>
   some (.inl ((h.tmod (wrap .i64 ((bY .i64 f a).tdiv 2))),(wrap .i64 (a+1)),j.A,j.B)))) (
   br (decide (a>0)) (
   br (b.A==i) (
   br (b.B==e) (
   (atL t a).bind fun u=>
   (oi (bY .i64 f a) (h.tmod (wrap .i64 ((bY .i64 f a).tdiv 2))) b d u).bind fun l=>
   some (.inl ((h.tmod (wrap .i64 ((bY .i64 f a).tdiv 2))),(wrap .i64 (a+1)),l.A,l.B))) (
   some (.inr (.inr (.inl (i,e,b.A,b.B,d.A,d.B,b.A,b.B)))))) (
   some (.inr (.inr (.inl (i,e,b.A,b.B,d.A,d.B,b.A,b.B)))))) (
   (atL t a).bind fun z=>
   (oi (bY .i64 f a) (h.tmod (wrap .i64 ((bY .i64 f a).tdiv 2))) b d z).bind fun m=>
   some (.inl ((h.tmod (wrap .i64 ((bY .i64 f a).tdiv 2))),(wrap .i64 (a+1)),m.A,m.B)))))) none) none) (
   some (.inr (.inr (.inr (h,a,decide (a<p),i,e)))))
abbrev tB (c:List (List Ext)) (e:List (List UInt8)) (k i d:Int) (j:List Query) (h:List Ext) (b:List (List (List UInt8))) (f a:Int):List (Nat×Blk):=[(1000,⟨6,true,[[sl (eL eExt) c,sl eS e,I k,I i,I d,sl eQuery j]]⟩),(1001,⟨2,true,[[sl eExt h,sl (eL eS) b]]⟩),(2001,⟨2,true,[[I f,I a]]⟩)]
theorem Ns {t n m l c d k i b j f a}:LX tab ow (.close [7017,7018,8006,8007,8014,10001,15008]) BS (ff t n m l c d k i b j f a) (fun s=>⟨[(1,sl eExt t),(2,I n),(3,I s.1),(10,.ptr 1000 0 0 1),(11,.ptr 1001 0 0 1),(13,.ptr 2001 0 0 1),(22,sl eS m),(23,I l),(24,I s.2.1)],tB c d k i b j f a s.2.2.1 s.2.2.2⟩) (alt (fun e=>((.ret,⟨[(12,I 9)],[(1000,⟨6,true,[[sl (eL eExt) c,sl eS d,I k,I i,I b,sl eQuery j]]⟩),(1001,⟨2,true,[[sl eExt f,sl (eL eS) a]]⟩),(2001,⟨2,true,[[I e.1,I e.2.1]]⟩),(7017,⟨2,true,[[I e.2.2.1,I e.2.2.2.1]]⟩),(7018,⟨2,true,[[I e.2.2.2.2.1,I e.2.2.2.2.2]]⟩),(8006,nG)]⟩):bT×St)) (alt (fun e=>((.ret,⟨[(12,I 12)],[(1000,⟨6,true,[[sl (eL eExt) c,sl eS d,I k,I i,I b,sl eQuery j]]⟩),(1001,⟨2,true,[[sl eExt f,sl (eL eS) a]]⟩),(2001,⟨2,true,[[I e.1,I e.2.1]]⟩),(7017,⟨2,true,[[I e.2.2.1,I e.2.2.2.1]]⟩),(7018,⟨2,true,[[I e.2.2.2.2.1,I e.2.2.2.2.2.1]]⟩),(8006,nG),(10001,⟨2,true,[[I e.2.2.2.2.2.2.1,I e.2.2.2.2.2.2.2]]⟩)]⟩):bT×St)) (fun e=>(.exit 0,⟨[(1,sl eExt t),(2,I n),(3,I e.1),(10,.ptr 1000 0 0 1),(11,.ptr 1001 0 0 1),(13,.ptr 2001 0 0 1),(22,sl eS m),(23,I l),(24,I e.2.1),(25,B e.2.2.1)],tB c d k i b j f a e.2.2.2.1 e.2.2.2.2⟩)))):=by
 refine lrX (fun s o h=> ?_)
 obtain ⟨_,_,_,_⟩:=s
 simp only [ff] at h
 simp only [tB,BS,Ch]
 have d1:= @KX
 have d2:= @b1f
 have d3:= @ZZ
 exact go2
def xh (b:(List (List UInt8))) (a:(List Ext)) (i h:Int) (c:Opening) (e:Query):Option (Int):=
 (Loop (ff a i b ((b.length:Nat):Int) c.Rounds c.Roots c.Last.A c.Last.B c.Nonce c.Queries e.Pairs e.Paths) (h,0,0,0)).bind (alt (fun j=>
 some 9) (alt (fun f=>
 some 12) (fun d=>
 br (d.2.2.2.1==c.Last.A) (
 br (d.2.2.2.2==c.Last.B) (
 some 0) (
 some 13)) (
 some 13))))
theorem QT {b a f e c d r} (h:xh b a f e c d=some r):Call tab ow 228 [sl eS b,sl eExt a,I f,I e,.agg [sl (eL eExt) c.Rounds,sl eS c.Roots,I c.Last.A,I c.Last.B,I c.Nonce,sl eQuery c.Queries],.agg [sl eExt d.Pairs,sl (eL eS) d.Paths]] []=some (I r,[]):=by
 rw [aj (af:=sO) rfl]
 unfold xh at h
 simp only [sO,zo]
 have d1:= @Ns
 exact go2
end
end
end Go.AI.Fn
