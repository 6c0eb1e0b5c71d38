/- Part. -/
import Derived.Test.YtdnkignjanfikaaGreatFx0
set_option linter.unusedVariables false
set_option linter.unusedSimpArgs false
set_option maxRecDepth 100000
set_option maxHeartbeats 1000000
namespace Go.AI.Fn
noncomputable section
open IntKind (wrap)
section
@[local go_sem] theorem c6q:mkR 2012 []=rws eU8 []:=rfl
def Fg (n:Int):Option (List UInt8):=
 br (cP (([(UInt8.ofInt (bW .i64 n 24)),(UInt8.ofInt (bW .i64 n 16)),(UInt8.ofInt (bW .i64 n 8)),(UInt8.ofInt n)]:List UInt8).length) 1) (
 some ([(UInt8.ofInt (bW .i64 n 24)),(UInt8.ofInt (bW .i64 n 16)),(UInt8.ofInt (bW .i64 n 8)),(UInt8.ofInt n)]:List UInt8)) none
theorem KL {n r} (h:Fg n=some r):Call tab ow 225 [.lit (.slice none 0 0),I n] []=some (sl eU8 r,[]):=by
 rw [aj (af:=BJ) rfl]
 unfold Fg at h
 simp only [BJ,SU]
 exact go2
end
section
@[local go_sem] theorem a6f:mkR 1007 []=rws eU8 []:=rfl
@[local go_sem] theorem a4e:mkR 1013 []=rws (eL eU8) []:=rfl
def fO (t:List UInt8) (m:Source):Option Source:=
 br (cP m.State.length 1) (
 (Fg (t.length:Int)).bind fun b=>
 (sB ([m.State,([(97:UInt8),(98:UInt8),(115:UInt8),(111:UInt8),(114:UInt8),(98:UInt8)]:List UInt8),b,t]:List (List UInt8))).bind fun a=>
 some (Source.mk m.Script m.At a 0)) none
theorem nj {t m r} (h:fO t m=some r):Call tab ow 221 [.ptr 0 0 0 1,sl eU8 t] [⟨4,true,[[sl eExt m.Script,I m.At,S m.State,I m.Count]]⟩]=some (.tup [],[⟨4,true,[[sl eExt r.Script,I r.At,S r.State,I r.Count]]⟩]):=by
 rw [aj (af:=nf) rfl]
 unfold fO at h
 simp only [nf,Am]
 have d1:= @KL
 have d2:= @y8
 exact go2
end
def iv (a b:Ext):Option Ext:=
 (Re a.A b.A).bind fun d=>
 (Re a.B b.B).bind fun c=>
 some (Ext.mk d c)
theorem mO {a b r} (h:iv a b=some r):Call tab ow 198 [.agg [I a.A,I a.B],.agg [I b.A,I b.B]] []=some (.agg [I r.A,I r.B],[]):=by
 rw [aj (af:=uD) rfl]
 unfold iv at h
 simp only [uD,IM]
 have d1:= @a7G
 exact go2
def wc (x:Int):Option Int:=
 br (decide (x>=4294967296)) (
 br (decide ((bW .u64 x 32)>=65536)) (
 br (decide ((bW .u64 (bW .u64 x 32) 16)>=256)) (
 (atL (([0,1,2,2,3,3,3,3,4,4,4,4,4,4,4,4,5,5,5,5,5,5,5,5,5,5,5,5,5,5,5,5,6,6,6,6,6,6,6,6,6,6,6,6,6,6,6,6,6,6,6,6,6,6,6,6,6,6,6,6,6,6,6,6,7,7,7,7,7,7,7,7,7,7,7,7,7,7,7,7,7,7,7,7,7,7,7,7,7,7,7,7,7,7,7,7,7,7,7,7,7,7,7,7,7,7,7,7,7,7,7,7,7,7,7,7,7,7,7,7,7,7,7,7,7,7,7,7,8,8,8,8,8,8,8,8,8,8,8,8,8,8,8,8,8,8,8,8,8,8,8,8,8,8,8,8,8,8,8,8,8,8,8,8,8,8,8,8,8,8,8,8,8,8,8,8,8,8,8,8,8,8,8,8,8,8,8,8,8,8,8,8,8,8,8,8,8,8,8,8,8,8,8,8,8,8,8,8,8,8,8,8,8,8,8,8,8,8,8,8,8,8,8,8,8,8,8,8,8,8,8,8,8,8,8,8,8,8,8,8,8,8,8,8,8,8,8,8,8,8,8,8,8,8,8,8]:List UInt8)) (wrap .u8 (bW .u64 (bW .u64 (bW .u64 x 32) 16) 8))).bind fun c=>
 some (wrap .i64 (56+(wrap .i64 (c.toNat:Int))))) (
 (atL (([0,1,2,2,3,3,3,3,4,4,4,4,4,4,4,4,5,5,5,5,5,5,5,5,5,5,5,5,5,5,5,5,6,6,6,6,6,6,6,6,6,6,6,6,6,6,6,6,6,6,6,6,6,6,6,6,6,6,6,6,6,6,6,6,7,7,7,7,7,7,7,7,7,7,7,7,7,7,7,7,7,7,7,7,7,7,7,7,7,7,7,7,7,7,7,7,7,7,7,7,7,7,7,7,7,7,7,7,7,7,7,7,7,7,7,7,7,7,7,7,7,7,7,7,7,7,7,7,8,8,8,8,8,8,8,8,8,8,8,8,8,8,8,8,8,8,8,8,8,8,8,8,8,8,8,8,8,8,8,8,8,8,8,8,8,8,8,8,8,8,8,8,8,8,8,8,8,8,8,8,8,8,8,8,8,8,8,8,8,8,8,8,8,8,8,8,8,8,8,8,8,8,8,8,8,8,8,8,8,8,8,8,8,8,8,8,8,8,8,8,8,8,8,8,8,8,8,8,8,8,8,8,8,8,8,8,8,8,8,8,8,8,8,8,8,8,8,8,8,8,8,8,8,8,8,8]:List UInt8)) (wrap .u8 (bW .u64 (bW .u64 x 32) 16))).bind fun a=>
 some (wrap .i64 (48+(wrap .i64 (a.toNat:Int)))))) (
 br (decide ((bW .u64 x 32)>=256)) (
 (atL (([0,1,2,2,3,3,3,3,4,4,4,4,4,4,4,4,5,5,5,5,5,5,5,5,5,5,5,5,5,5,5,5,6,6,6,6,6,6,6,6,6,6,6,6,6,6,6,6,6,6,6,6,6,6,6,6,6,6,6,6,6,6,6,6,7,7,7,7,7,7,7,7,7,7,7,7,7,7,7,7,7,7,7,7,7,7,7,7,7,7,7,7,7,7,7,7,7,7,7,7,7,7,7,7,7,7,7,7,7,7,7,7,7,7,7,7,7,7,7,7,7,7,7,7,7,7,7,7,8,8,8,8,8,8,8,8,8,8,8,8,8,8,8,8,8,8,8,8,8,8,8,8,8,8,8,8,8,8,8,8,8,8,8,8,8,8,8,8,8,8,8,8,8,8,8,8,8,8,8,8,8,8,8,8,8,8,8,8,8,8,8,8,8,8,8,8,8,8,8,8,8,8,8,8,8,8,8,8,8,8,8,8,8,8,8,8,8,8,8,8,8,8,8,8,8,8,8,8,8,8,8,8,8,8,8,8,8,8,8,8,8,8,8,8,8,8,8,8,8,8,8,8,8,8,8,8]:List UInt8)) (wrap .u8 (bW .u64 (bW .u64 x 32) 8))).bind fun h=>
 some (wrap .i64 (40+(wrap .i64 (h.toNat:Int))))) (
 (atL (([0,1,2,2,3,3,3,3,4,4,4,4,4,4,4,4,5,5,5,5,5,5,5,5,5,5,5,5,5,5,5,5,6,6,6,6,6,6,6,6,6,6,6,6,6,6,6,6,6,6,6,6,6,6,6,6,6,6,6,6,6,6,6,6,7,7,7,7,7,7,7,7,7,7,7,7,7,7,7,7,7,7,7,7,7,7,7,7,7,7,7,7,7,7,7,7,7,7,7,7,7,7,7,7,7,7,7,7,7,7,7,7,7,7,7,7,7,7,7,7,7,7,7,7,7,7,7,7,8,8,8,8,8,8,8,8,8,8,8,8,8,8,8,8,8,8,8,8,8,8,8,8,8,8,8,8,8,8,8,8,8,8,8,8,8,8,8,8,8,8,8,8,8,8,8,8,8,8,8,8,8,8,8,8,8,8,8,8,8,8,8,8,8,8,8,8,8,8,8,8,8,8,8,8,8,8,8,8,8,8,8,8,8,8,8,8,8,8,8,8,8,8,8,8,8,8,8,8,8,8,8,8,8,8,8,8,8,8,8,8,8,8,8,8,8,8,8,8,8,8,8,8,8,8,8,8]:List UInt8)) (wrap .u8 (bW .u64 x 32))).bind fun b=>
 some (wrap .i64 (32+(wrap .i64 (b.toNat:Int))))))) (
 br (decide (x>=65536)) (
 br (decide ((bW .u64 x 16)>=256)) (
 (atL (([0,1,2,2,3,3,3,3,4,4,4,4,4,4,4,4,5,5,5,5,5,5,5,5,5,5,5,5,5,5,5,5,6,6,6,6,6,6,6,6,6,6,6,6,6,6,6,6,6,6,6,6,6,6,6,6,6,6,6,6,6,6,6,6,7,7,7,7,7,7,7,7,7,7,7,7,7,7,7,7,7,7,7,7,7,7,7,7,7,7,7,7,7,7,7,7,7,7,7,7,7,7,7,7,7,7,7,7,7,7,7,7,7,7,7,7,7,7,7,7,7,7,7,7,7,7,7,7,8,8,8,8,8,8,8,8,8,8,8,8,8,8,8,8,8,8,8,8,8,8,8,8,8,8,8,8,8,8,8,8,8,8,8,8,8,8,8,8,8,8,8,8,8,8,8,8,8,8,8,8,8,8,8,8,8,8,8,8,8,8,8,8,8,8,8,8,8,8,8,8,8,8,8,8,8,8,8,8,8,8,8,8,8,8,8,8,8,8,8,8,8,8,8,8,8,8,8,8,8,8,8,8,8,8,8,8,8,8,8,8,8,8,8,8,8,8,8,8,8,8,8,8,8,8,8,8]:List UInt8)) (wrap .u8 (bW .u64 (bW .u64 x 16) 8))).bind fun d=>
 some (wrap .i64 (24+(wrap .i64 (d.toNat:Int))))) (
 (atL (([0,1,2,2,3,3,3,3,4,4,4,4,4,4,4,4,5,5,5,5,5,5,5,5,5,5,5,5,5,5,5,5,6,6,6,6,6,6,6,6,6,6,6,6,6,6,6,6,6,6,6,6,6,6,6,6,6,6,6,6,6,6,6,6,7,7,7,7,7,7,7,7,7,7,7,7,7,7,7,7,7,7,7,7,7,7,7,7,7,7,7,7,7,7,7,7,7,7,7,7,7,7,7,7,7,7,7,7,7,7,7,7,7,7,7,7,7,7,7,7,7,7,7,7,7,7,7,7,8,8,8,8,8,8,8,8,8,8,8,8,8,8,8,8,8,8,8,8,8,8,8,8,8,8,8,8,8,8,8,8,8,8,8,8,8,8,8,8,8,8,8,8,8,8,8,8,8,8,8,8,8,8,8,8,8,8,8,8,8,8,8,8,8,8,8,8,8,8,8,8,8,8,8,8,8,8,8,8,8,8,8,8,8,8,8,8,8,8,8,8,8,8,8,8,8,8,8,8,8,8,8,8,8,8,8,8,8,8,8,8,8,8,8,8,8,8,8,8,8,8,8,8,8,8,8,8]:List UInt8)) (wrap .u8 (bW .u64 x 16))).bind fun f=>
 some (wrap .i64 (16+(wrap .i64 (f.toNat:Int)))))) (
 br (decide (x>=256)) (
 (atL (([0,1,2,2,3,3,3,3,4,4,4,4,4,4,4,4,5,5,5,5,5,5,5,5,5,5,5,5,5,5,5,5,6,6,6,6,6,6,6,6,6,6,6,6,6,6,6,6,6,6,6,6,6,6,6,6,6,6,6,6,6,6,6,6,7,7,7,7,7,7,7,7,7,7,7,7,7,7,7,7,7,7,7,7,7,7,7,7,7,7,7,7,7,7,7,7,7,7,7,7,7,7,7,7,7,7,7,7,7,7,7,7,7,7,7,7,7,7,7,7,7,7,7,7,7,7,7,7,8,8,8,8,8,8,8,8,8,8,8,8,8,8,8,8,8,8,8,8,8,8,8,8,8,8,8,8,8,8,8,8,8,8,8,8,8,8,8,8,8,8,8,8,8,8,8,8,8,8,8,8,8,8,8,8,8,8,8,8,8,8,8,8,8,8,8,8,8,8,8,8,8,8,8,8,8,8,8,8,8,8,8,8,8,8,8,8,8,8,8,8,8,8,8,8,8,8,8,8,8,8,8,8,8,8,8,8,8,8,8,8,8,8,8,8,8,8,8,8,8,8,8,8,8,8,8,8]:List UInt8)) (wrap .u8 (bW .u64 x 8))).bind fun i=>
 some (wrap .i64 (8+(wrap .i64 (i.toNat:Int))))) (
 (atL (([0,1,2,2,3,3,3,3,4,4,4,4,4,4,4,4,5,5,5,5,5,5,5,5,5,5,5,5,5,5,5,5,6,6,6,6,6,6,6,6,6,6,6,6,6,6,6,6,6,6,6,6,6,6,6,6,6,6,6,6,6,6,6,6,7,7,7,7,7,7,7,7,7,7,7,7,7,7,7,7,7,7,7,7,7,7,7,7,7,7,7,7,7,7,7,7,7,7,7,7,7,7,7,7,7,7,7,7,7,7,7,7,7,7,7,7,7,7,7,7,7,7,7,7,7,7,7,7,8,8,8,8,8,8,8,8,8,8,8,8,8,8,8,8,8,8,8,8,8,8,8,8,8,8,8,8,8,8,8,8,8,8,8,8,8,8,8,8,8,8,8,8,8,8,8,8,8,8,8,8,8,8,8,8,8,8,8,8,8,8,8,8,8,8,8,8,8,8,8,8,8,8,8,8,8,8,8,8,8,8,8,8,8,8,8,8,8,8,8,8,8,8,8,8,8,8,8,8,8,8,8,8,8,8,8,8,8,8,8,8,8,8,8,8,8,8,8,8,8,8,8,8,8,8,8,8]:List UInt8)) (wrap .u8 x)).bind fun e=>
 some (wrap .i64 (0+(wrap .i64 (e.toNat:Int)))))))
theorem Km {x r} (h:wc x=some r):Call tab ow 386 [.lit (.int .u64 x)] []=some (I r,[]):=by
 rw [aj (af:=nr) rfl]
 unfold wc at h
 simp only [nr,A9]
 exact go2
def Ba (x:Int):Option Int:=
 (wc x).bind fun a=>
 some a
theorem OA {x r} (h:Ba x=some r):Call tab ow 348 [.lit (.int .u64 x)] []=some (I r,[]):=by
 rw [aj (af:=qr) rfl]
 unfold Ba at h
 simp only [qr,Eo]
 have d1:= @Km
 exact go2
def Kp (n:Int):Option Int:=
 (Ba (wrap .u64 n)).bind fun a=>
 some (wrap .i64 (a-1))
theorem Wb {n r} (h:Kp n=some r):Call tab ow 309 [I n] []=some (I r,[]):=by
 rw [aj (af:=Hc) rfl]
 unfold Kp at h
 simp only [Hc,Wc]
 have d1:= @OA
 exact go2
def xI:Int×Int×Int->Option ((Int×Int×Int)⊕((Int×Int×Int×Bool)))
 | (c,b,a)=>
   br (decide (b>0)) (
   br ((cM .i64 b 1)==1) (
   (yk a c).bind fun f=>
   (yk c c).bind fun e=>
   some (.inl (e,(bW .i64 b 1),f))) (
   (yk c c).bind fun d=>
   some (.inl (d,(bW .i64 b 1),a)))) (
   some (.inr (c,b,a,decide (b>0))))
theorem a8e:LX tab ow (.close [6002,7002]) Wj (xI) (fun s=>⟨[(0,I s.1),(1,I s.2.1),(5,I s.2.2)],[]⟩) (fun e=>(.exit 0,⟨[(0,I e.1),(1,I e.2.1),(5,I e.2.2.1),(7,B e.2.2.2)],[]⟩)):=by
 refine lrX (fun s o h=> ?_)
 obtain ⟨_,_,_⟩:=s
 simp only [xI] at h
 simp only [Wj,W4]
 have d1:= @Pp
 exact go2
def RV (a n:Int):Option Int:=
 (Loop (xI) (a,n,1)).bind fun b=>
 some b.2.2.1
theorem Xq {a n r} (h:RV a n=some r):Call tab ow 359 [I a,I n] []=some (I r,[]):=by
 rw [aj (af:=Pm) rfl]
 unfold RV at h
 simp only [Pm,XN]
 have d1:= @a8e
 exact go2
def Qi (k:Int):Option Int:=
 br (decide (0<=(wrap .i64 (24-k)))) (
 (RV 3 (bC .i64 127 (wrap .i64 (24-k)))).bind fun a=>
 some a) none
theorem b4n {k r} (h:Qi k=some r):Call tab ow 308 [I k] []=some (I r,[]):=by
 rw [aj (af:=Kl) rfl]
 unfold Qi at h
 simp only [Kl,a1y]
 have d1:= @Xq
 exact go2
def ik (a:Ext) (n:Int):Option Ext:=
 (yk a.A n).bind fun c=>
 (yk a.B n).bind fun b=>
 some (Ext.mk c b)
theorem nJ {a n r} (h:ik a n=some r):Call tab ow 354 [.agg [I a.A,I a.B],I n] []=some (.agg [I r.A,I r.B],[]):=by
 rw [aj (af:=rG) rfl]
 unfold ik at h
 simp only [rG,Fv]
 have d1:= @Pp
 exact go2
def fP (a b:Ext):Option Ext:=
 (Kc a.A b.A).bind fun d=>
 (Kc a.B b.B).bind fun c=>
 some (Ext.mk d c)
theorem io {a b r} (h:fP a b=some r):Call tab ow 199 [.agg [I a.A,I a.B],.agg [I b.A,I b.B]] []=some (.agg [I r.A,I r.B],[]):=by
 rw [aj (af:=wQ) rfl]
 unfold fP at h
 simp only [wQ,Kj]
 have d1:= @XB
 exact go2
section
@[local go_sem] theorem b6Q:mkR 2000 []=rws eU8 []:=rfl
def lv (t:List Ext) (c:Int):(List UInt8)×Int->Option (((List UInt8)×Int)⊕(((List UInt8)×Int×Bool)))
 | (l,a)=>
   br (decide (a<c)) (
   (atL t a).bind fun x=>
   (lL x.A l).bind fun d=>
   (lL x.B d).bind fun b=>
   some (.inl (b,(wrap .i64 (a+1))))) (
   some (.inr (l,a,decide (a<c))))
theorem Te {t a}:LX tab ow (.close [5002,6003,6006]) GK (lv t a) (fun s=>⟨[(3,.sl 2000 0 s.1.length),(7,sl eExt t),(8,I a),(9,I s.2)],[(2000,⟨1,false,rws eU8 s.1⟩)]⟩) (fun e=>(.exit 0,⟨[(3,.sl 2000 0 e.1.length),(7,sl eExt t),(8,I a),(9,I e.2.1),(10,B e.2.2)],[(2000,⟨1,false,rws eU8 e.1⟩)]⟩)):=by
 refine lrX (fun s o h=> ?_)
 obtain ⟨_,_⟩:=s
 simp only [lv] at h
 simp only [GK,Fy]
 have d1:= @nQ
 exact go2
def tl (a:List Ext):Option (List UInt8):=
 (Loop (lv a (a.length:Int)) (([]:List UInt8),0)).bind fun b=>
 some b.1
theorem Lf {a r} (h:tl a=some r):Call tab ow 175 [sl eExt a] []=some (sl eU8 r,[]):=by
 rw [aj (af:=xy) rfl]
 unfold tl at h
 simp only [xy,Co]
 have d1:= @Te
 exact go2
end
def yW (a:List UInt8):Option (List UInt8):=
 br (cP ((([0]:List UInt8)).length+a.length) 1) (
 some ((([0]:List UInt8))++a)) none
theorem YW {a r} (h:yW a=some r):Call tab ow 305 [S a] []=some (S r,[]):=by
 rw [aj (af:=xu) rfl]
 unfold yW at h
 simp only [xu,Lw]
 exact go2
def tq (a b:List UInt8):Option (List UInt8):=
 br (cP ((([1]:List UInt8)).length+a.length) 1) (
 br (cP (((([1]:List UInt8))++a).length+b.length) 1) (
 some (((([1]:List UInt8))++a)++b)) none) none
theorem X4 {a b r} (h:tq a b=some r):Call tab ow 306 [S a,S b] []=some (S r,[]):=by
 rw [aj (af:=wL) rfl]
 unfold tq at h
 simp only [wL,LS]
 exact go2
def m9 (t:List UInt8) (b:Int):Int×Int->Option ((Int×Int)⊕((Int×Int×Bool)))
 | (n,a)=>
   br (decide (a<b)) (
   (atL t a).bind fun x=>
   some (.inl ((xi .u64 (bC .u64 n 8) (wrap .u64 (x.toNat:Int))),(wrap .i64 (a+1))))) (
   some (.inr (n,a,decide (a<b))))
theorem XA {t a}:LX tab ow (.close []) LN (m9 t a) (fun s=>⟨[(3,.lit (.int .u64 s.1)),(6,sl eU8 t),(7,I a),(8,I s.2)],[]⟩) (fun e=>(.exit 0,⟨[(3,.lit (.int .u64 e.1)),(6,sl eU8 t),(7,I a),(8,I e.2.1),(9,B e.2.2)],[]⟩)):=by
 refine lrX (fun s o h=> ?_)
 obtain ⟨_,_⟩:=s
 simp only [m9] at h
 simp only [LN,KU]
 exact go2
def Bq (b:List UInt8):Option Int:=
 (Loop (m9 b (b.length:Int)) (0,0)).bind fun a=>
 some (wrap .i64 (a.1.tmod 2130706433))
theorem a4k {b r} (h:Bq b=some r):Call tab ow 368 [sl eU8 b] []=some (I r,[]):=by
 rw [aj (af:=D2) rfl]
 unfold Bq at h
 simp only [D2,JV]
 have d1:= @XA
 exact go2
section
@[local go_sem] theorem a9E:mkR 5005 []=rws eU8 []:=rfl
@[local go_sem] theorem b08:mkR 5012 []=rws (eL eU8) []:=rfl
def je (m:Source):Option (Ext×Source):=
 br (decide ((m.Script.length:Int)>0)) (
 br (decide ((m.Script.length:Int)≠0)) (
 (atL m.Script ((wrap .i64 ((wrap .i64 (m.At+1))-1)).tmod (m.Script.length:Int))).bind fun x=>
 some (x,(Source.mk m.Script (wrap .i64 (m.At+1)) m.State m.Count))) none) (
 br (cP m.State.length 1) (
 (Fg m.Count).bind fun e=>
 (sB ([m.State,([(100:UInt8),(114:UInt8),(97:UInt8),(119:UInt8)]:List UInt8),e]:List (List UInt8))).bind fun a=>
 br (cP a.length 1) (
 (l6 a 0 8).bind fun y=>
 (Bq y).bind fun c=>
 (l6 a 8 16).bind fun d=>
 (Bq d).bind fun b=>
 some ((Ext.mk c b),(Source.mk m.Script m.At m.State (wrap .i64 (m.Count+1))))) none) none)
theorem wq {m r} (h:je m=some r):Call tab ow 325 [.ptr 0 0 0 1] [⟨4,true,[[sl eExt m.Script,I m.At,S m.State,I m.Count]]⟩]=some (.agg [I r.1.A,I r.1.B],[⟨4,true,[[sl eExt r.2.Script,I r.2.At,S r.2.State,I r.2.Count]]⟩]):=by
 rw [aj (af:=qj) rfl]
 unfold je at h
 simp only [qj,DV]
 have d1:= @KL
 have d2:= @y8
 have d3:= @a4k
 exact go2
end
section
@[local go_sem] theorem a7n:mkR 2000 []=rws eExt []:=rfl
@[local go_sem] theorem a6B:mkR 5003 []=rws eExt []:=rfl
def fS (t:Int):(List Ext)×Int×(List Ext)×Int×(List UInt8)×Int->Option (((List Ext)×Int×(List Ext)×Int×(List UInt8)×Int)⊕(((List Ext)×Int×Bool×(List Ext)×Int×(List UInt8)×Int)))
 | (l,b,c,d,f,e)=>
   br (decide (b<t)) (
   (je (Source.mk c d f e)).bind fun a=>
   br (cP ((l++([a.1]:List Ext)).length) 16) (
   some (.inl ((l++([a.1]:List Ext)),(wrap .i64 (b+1)),a.2.Script,a.2.At,a.2.State,a.2.Count))) none) (
   some (.inr (l,b,decide (b<t),c,d,f,e)))
abbrev qJ (l c:List Ext) (a:Int) (b:List UInt8) (d:Int):List (Nat×Blk):=[(0,⟨4,true,[[sl eExt c,I a,S b,I d]]⟩),(2000,⟨2,false,rws eExt l⟩)]
theorem K1 {t}:LX tab ow (.close [5002,5003,5004]) yp (fS t) (fun s=>⟨[(0,.ptr 0 0 0 1),(5,.sl 2000 0 s.1.length),(7,I t),(8,I s.2.1)],qJ s.1 s.2.2.1 s.2.2.2.1 s.2.2.2.2.1 s.2.2.2.2.2⟩) (fun e=>(.exit 0,⟨[(0,.ptr 0 0 0 1),(5,.sl 2000 0 e.1.length),(7,I t),(8,I e.2.1),(9,B e.2.2.1)],qJ e.1 e.2.2.2.1 e.2.2.2.2.1 e.2.2.2.2.2.1 e.2.2.2.2.2.2⟩)):=by
 refine lrX (fun s o h=> ?_)
 obtain ⟨_,_,_,_,_,_⟩:=s
 simp only [fS] at h
 simp only [qJ,yp,yK]
 have d1:= @wq
 exact go2
def jG (n:Int) (m:Source):Option ((List Ext)×Source):=
 (Loop (fS n) (([]:List Ext),0,m.Script,m.At,m.State,m.Count)).bind fun a=>
 some (a.1,(Source.mk a.2.2.2.1 a.2.2.2.2.1 a.2.2.2.2.2.1 a.2.2.2.2.2.2))
theorem Bx {n m r} (h:jG n m=some r):Call tab ow 227 [.ptr 0 0 0 1,I n] [⟨4,true,[[sl eExt m.Script,I m.At,S m.State,I m.Count]]⟩]=some (sl eExt r.1,[⟨4,true,[[sl eExt r.2.Script,I r.2.At,S r.2.State,I r.2.Count]]⟩]):=by
 rw [aj (af:=oJ) rfl]
 unfold jG at h
 simp only [oJ,tG]
 have d1:= @K1
 exact go2
end
def O8:Option Ext:=
 some (Ext.mk 1 0)
theorem Pj {r} (h:O8=some r):Call tab ow 201 [] []=some (.agg [I r.A,I r.B],[]):=by
 rw [aj (af:=Pn) rfl]
 unfold O8 at h
 simp only [Pn,a72]
 exact go2
def dc (a b:Ext):Option Ext:=
 (yk a.A b.A).bind fun j=>
 (yk a.B b.B).bind fun i=>
 (yk 3 i).bind fun f=>
 (Kc j f).bind fun c=>
 (yk a.A b.B).bind fun h=>
 (yk a.B b.A).bind fun d=>
 (Kc h d).bind fun e=>
 some (Ext.mk c e)
theorem eY {a b r} (h:dc a b=some r):Call tab ow 200 [.agg [I a.A,I a.B],.agg [I b.A,I b.B]] []=some (.agg [I r.A,I r.B],[]):=by
 rw [aj (af:=uM) rfl]
 unfold dc at h
 simp only [uM,IK]
 have d1:= @Pp
 have d2:= @XB
 exact go2
section
@[local go_sem] theorem b93:mkR 2001 []=rws eExt []:=rfl
@[local go_sem] theorem b8G:mkR 6000 []=rws eExt []:=rfl
@[local go_sem] theorem c1c:mkR 6001 []=rws eExt []:=rfl
@[local go_sem] theorem c1j:mkR 10006 []=rws eExt []:=rfl
@[local go_sem] theorem b94:mkR 10012 []=rws eExt []:=rfl
def mU (p:List Ext) (o n:Int) (m:List Ext) (j c k:Int):(List Ext)×(List Ext)×Int->Option (((List Ext)×(List Ext)×Int)⊕(((List Ext)×(List Ext)×Int×Bool)))
 | (l,e,b)=>
   br (decide (b<j)) (
   (atL m b).bind fun i=>
   (O8).bind fun h=>
   (iv h (Ext.mk c k)).bind fun f=>
   (dc i f).bind fun a=>
   br (cP ((l++([a]:List Ext)).length) 16) (
   (dc i (Ext.mk c k)).bind fun d=>
   br (cP ((e++([d]:List Ext)).length) 16) (
   some (.inl ((l++([a]:List Ext)),(e++([d]:List Ext)),(wrap .i64 (b+1))))) none) none) (
   some (.inr (l,e,b,decide (b<j))))
abbrev AX (c a:Int) (l b:List Ext):List (Nat×Blk):=[(5002,⟨2,true,[[I c,I a]]⟩),(6000,⟨2,false,rws eExt l⟩),(6001,⟨2,false,rws eExt b⟩)]
theorem TM {i d f j a c b}:LX tab ow (.close [9002,10002,10004,10005,10006,10007,10011,10012,10013]) HL (mU i d f j a c b) (fun s=>⟨[(5,.ptr 5002 0 0 1),(6,.sl 6000 0 s.1.length),(7,.sl 6001 0 s.2.1.length),(12,sl eExt i),(13,I d),(14,I f),(20,sl eExt j),(21,I a),(22,I s.2.2)],AX c b s.1 s.2.1⟩) (fun e=>(.exit 2,⟨[(5,.ptr 5002 0 0 1),(6,.sl 6000 0 e.1.length),(7,.sl 6001 0 e.2.1.length),(12,sl eExt i),(13,I d),(14,I f),(20,sl eExt j),(21,I a),(22,I e.2.2.1),(23,B e.2.2.2)],AX c b e.1 e.2.1⟩)):=by
 refine lrX (fun s o h=> ?_)
 obtain ⟨_,_,_⟩:=s
 simp only [mU] at h
 simp only [AX,HL,Il]
 have d1:= @Pj
 have d2:= @mO
 have d3:= @eY
 exact go2
def mV (t:List Ext) (d:Int):(List Ext)×Int->Option (((List Ext)×Int)⊕(((List Ext)×Int×Bool)))
 | (a,b)=>
   br (decide (b<d)) (
   (atL t b).bind fun x=>
   (Loop (mU t d b a (a.length:Int) x.A x.B) (([]:List Ext),([]:List Ext),0)).bind fun c=>
   br (cP ((c.1++c.2.1).length) 16) (
   some (.inl ((c.1++c.2.1),(wrap .i64 (b+1))))) none) (
   some (.inr (a,b,decide (b<d))))
theorem V4 {t a}:LX tab ow (.close [5002,6000,6001,9002,10002,10004,10005,10006,10007,10011,10012,10013,12002,2001]) Ir (mV t a) (fun s=>⟨[(3,sl eExt s.1),(12,sl eExt t),(13,I a),(14,I s.2)],[]⟩) (fun e=>(.exit 0,⟨[(3,sl eExt e.1),(12,sl eExt t),(13,I a),(14,I e.2.1),(15,B e.2.2)],[]⟩)):=by
 refine lrX (fun s o h=> ?_)
 obtain ⟨_,_⟩:=s
 simp only [mV] at h
 simp only [Ir,Ik]
 have d1:= @TM
 exact go2
def sY (a:List Ext):Option (List Ext):=
 (O8).bind fun c=>
 (Loop (mV a (a.length:Int)) (([c]:List Ext),0)).bind fun b=>
 some b.1
theorem GF {a r} (h:sY a=some r):Call tab ow 102 [sl eExt a] []=some (sl eExt r,[]):=by
 rw [aj (af:=zP) rfl]
 unfold sY at h
 simp only [zP,Al]
 have d1:= @Pj
 have d2:= @V4
 exact go2
end
def qQ (a:Int):Option Int:=
 (jx a 1 2).bind fun b=>
 br (!b) (
 some 0) (
 some (wrap .i64 (a+1)))
theorem Lg {a r} (h:qQ a=some r):Call tab ow 324 [I a] []=some (I r,[]):=by
 rw [aj (af:=xj) rfl]
 unfold qQ at h
 simp only [xj,LA]
 have d1:= @y9
 exact go2
def BD (a b f:Ext):Option Ext:=
 (iv b a).bind fun e=>
 (dc f e).bind fun d=>
 (fP a d).bind fun c=>
 some c
theorem a0O {a b c r} (h:BD a b c=some r):Call tab ow 300 [.agg [I a.A,I a.B],.agg [I b.A,I b.B],.agg [I c.A,I c.B]] []=some (.agg [I r.A,I r.B],[]):=by
 rw [aj (af:=zU) rfl]
 unfold BD at h
 simp only [zU,Nc]
 have d1:= @mO
 have d2:= @eY
 have d3:= @io
 exact go2
def xK (a:Int) (v:List Ext):Option Ext:=
 br (a==1) (
 (atL v 0).bind fun x=>
 (atL v 1).bind fun e=>
 (dc x e).bind fun j=>
 some j) (
 (atL v 0).bind fun i=>
 (atL v 1).bind fun f=>
 (atL v 2).bind fun k=>
 (dc f k).bind fun c=>
 (atL v 3).bind fun h=>
 (iv c h).bind fun d=>
 (dc i d).bind fun b=>
 some b)
theorem a2Y {a v r} (h:xK a v=some r):Call tab ow 299 [I a,sl eExt v] []=some (.agg [I r.A,I r.B],[]):=by
 rw [aj (af:=zO) rfl]
 unfold xK at h
 simp only [zO,O1]
 have d1:= @eY
 have d2:= @mO
 exact go2
def cZ (a:List Ext) (m:Source):Option Source:=
 (tl a).bind fun c=>
 (fO c m).bind fun b=>
 some b
theorem jL {a m r} (h:cZ a m=some r):Call tab ow 223 [.ptr 0 0 0 1,sl eExt a] [⟨4,true,[[sl eExt m.Script,I m.At,S m.State,I m.Count]]⟩]=some (.tup [],[⟨4,true,[[sl eExt r.Script,I r.At,S r.State,I r.Count]]⟩]):=by
 rw [aj (af:=jN) rfl]
 unfold cZ at h
 simp only [jN,sO]
 have d1:= @Lf
 have d2:= @nj
 exact go2
section
@[local go_sem] theorem b1o: ∀k,BQ 2003 k [I (0:Int),I (0:Int)]=rws eExt (List.replicate k (Ext.mk (0:Int) (0:Int))):=fun _=>M6 eExt (Ext.mk (0:Int) (0:Int)) _ _
def ia (a:List Ext) (t z t3:List au) (v:Int) (n:List au) (h c r c3:Int) (y u w:List au) (p q s i o m:Int):(List Ext)×Int->Option (((List Ext)×Int)⊕(((List Ext)×Int×Bool)))
 | (l,b)=>
   br (decide (b<h)) (
   (atL n b).bind fun x=>
   br (decide (0<=x.Col)) (
   br (decide (x.Col.toNat<l.length)) (
   (l[x.Col.toNat]?).bind fun k=>
   (atL a x.Row).bind fun j=>
   (dc (Ext.mk p q) j).bind fun d=>
   (ik d x.Value).bind fun e=>
   (fP k e).bind fun f=>
   br (decide (0<=x.Col)) (
   br (decide (x.Col.toNat<l.length)) (
   (l[x.Col.toNat]?).bind fun x4=>
   some (.inl ((l.set x.Col.toNat f),(wrap .i64 (b+1))))) none) none) none) none) (
   some (.inr (l,b,decide (b<h))))
abbrev tw (c e m:Int) (f h k:List au) (n i j b d a:Int) (l:List Ext):List (Nat×Blk):=[(1000,⟨6,true,[[I c,I e,I m,sl aA f,sl aA h,sl aA k]]⟩),(1001,⟨6,true,[[I n,I i,I j,I b,I d,I a]]⟩),(2003,⟨2,false,rws eExt l⟩)]
theorem MZ {a t u x q m k c i v j n r w p l d f b}:LX tab ow (.close [8002,9016,9019,9020]) js (ia a t u x q m k c i v j n r w p l d f b) (fun s=>⟨[(5,.ptr 1001 0 0 1),(7,.sl 2003 0 s.1.length),(8,sl eExt a),(9,I 0),(20,.agg [sl aA t,sl aA u,sl aA x]),(21,I q),(25,sl aA m),(26,I k),(27,I s.2)],tw c i v j n r w p l d f b s.1⟩) (fun e=>(.exit 2,⟨[(5,.ptr 1001 0 0 1),(7,.sl 2003 0 e.1.length),(8,sl eExt a),(9,I 0),(20,.agg [sl aA t,sl aA u,sl aA x]),(21,I q),(25,sl aA m),(26,I k),(27,I e.2.1),(28,B e.2.2)],tw c i v j n r w p l d f b e.1⟩)):=by
 refine lrX (fun s o h=> ?_)
 obtain ⟨_,_⟩:=s
 simp only [ia] at h
 simp only [tw,js,oB]
 have d1:= @eY
 have d2:= @nJ
 have d3:= @io
 exact go2
def oI (c:List Ext) (t8 t9 u l:List au) (e x p o:Int) (q r w:List au) (s t h f v n:Int):(List Ext)×Int->Option (((List Ext)×Int)⊕(((List Ext)×Int×Bool)))
 | (d,a)=>
   br (decide (a<e)) (
   (atL l a).bind fun b=>
   br (decide (0<=b.Col)) (
   br (decide (b.Col.toNat<d.length)) (
   (d[b.Col.toNat]?).bind fun m=>
   (atL c b.Row).bind fun y=>
   (dc (Ext.mk h f) y).bind fun j=>
   (ik j b.Value).bind fun k=>
   (fP m k).bind fun i=>
   br (decide (0<=b.Col)) (
   br (decide (b.Col.toNat<d.length)) (
   (d[b.Col.toNat]?).bind fun z=>
   some (.inl ((d.set b.Col.toNat i),(wrap .i64 (a+1))))) none) none) none) none) (
   some (.inr (d,a,decide (a<e))))
abbrev tn (k b m:Int) (f h j:List au) (c e d a i l:Int) (n:List Ext):List (Nat×Blk):=[(1000,⟨6,true,[[I k,I b,I m,sl aA f,sl aA h,sl aA j]]⟩),(1001,⟨6,true,[[I c,I e,I d,I a,I i,I l]]⟩),(2003,⟨2,false,rws eExt n⟩)]
theorem MS {a v w j u q p d t k m n c i f b l r}:LX tab ow (.close [8002,9016,9019,9020]) js (oI a v w j u q p d t k m n c i f b l r) (fun s=>⟨[(5,.ptr 1001 0 0 1),(7,.sl 2003 0 s.1.length),(8,sl eExt a),(9,I 1),(20,.agg [sl aA v,sl aA w,sl aA j]),(21,I 1),(25,sl aA u),(26,I q),(27,I s.2)],tn p d t k m n c i f b l r s.1⟩) (fun e=>(.exit 2,⟨[(5,.ptr 1001 0 0 1),(7,.sl 2003 0 e.1.length),(8,sl eExt a),(9,I 1),(20,.agg [sl aA v,sl aA w,sl aA j]),(21,I 1),(25,sl aA u),(26,I q),(27,I e.2.1),(28,B e.2.2)],tn p d t k m n c i f b l r e.1⟩)):=by
 refine lrX (fun s o h=> ?_)
 obtain ⟨_,_⟩:=s
 simp only [oI] at h
 simp only [tn,js,oB]
 have d1:= @eY
 have d2:= @nJ
 have d3:= @io
 exact go2
def oE (c:List Ext) (w x v m:List au) (e z s o:Int) (p u c30:List au) (q y t r j l:Int):(List Ext)×Int->Option (((List Ext)×Int)⊕(((List Ext)×Int×Bool)))
 | (d,a)=>
   br (decide (a<e)) (
   (atL m a).bind fun b=>
   br (decide (0<=b.Col)) (
   br (decide (b.Col.toNat<d.length)) (
   (d[b.Col.toNat]?).bind fun n=>
   (atL c b.Row).bind fun k=>
   (dc (Ext.mk j l) k).bind fun i=>
   (ik i b.Value).bind fun h=>
   (fP n h).bind fun f=>
   br (decide (0<=b.Col)) (
   br (decide (b.Col.toNat<d.length)) (
   (d[b.Col.toNat]?).bind fun x12=>
   some (.inl ((d.set b.Col.toNat f),(wrap .i64 (a+1))))) none) none) none) none) (
   some (.inr (d,a,decide (a<e))))
abbrev tj (f d b:Int) (i h j:List au) (k c e l m a:Int) (n:List Ext):List (Nat×Blk):=[(1000,⟨6,true,[[I f,I d,I b,sl aA i,sl aA h,sl aA j]]⟩),(1001,⟨6,true,[[I k,I c,I e,I l,I m,I a]]⟩),(2003,⟨2,false,rws eExt n⟩)]
theorem Mi {a w r n q k j f c m l p u d i t v b}:LX tab ow (.close [8002,9016,9019,9020]) js (oE a w r n q k j f c m l p u d i t v b) (fun s=>⟨[(5,.ptr 1001 0 0 1),(7,.sl 2003 0 s.1.length),(8,sl eExt a),(9,I 2),(20,.agg [sl aA w,sl aA r,sl aA n]),(21,I 2),(25,sl aA q),(26,I k),(27,I s.2)],tj j f c m l p u d i t v b s.1⟩) (fun e=>(.exit 2,⟨[(5,.ptr 1001 0 0 1),(7,.sl 2003 0 e.1.length),(8,sl eExt a),(9,I 2),(20,.agg [sl aA w,sl aA r,sl aA n]),(21,I 2),(25,sl aA q),(26,I k),(27,I e.2.1),(28,B e.2.2)],tj j f c m l p u d i t v b e.1⟩)):=by
 refine lrX (fun s o h=> ?_)
 obtain ⟨_,_⟩:=s
 simp only [oE] at h
 simp only [tj,js,oB]
 have d1:= @eY
 have d2:= @nJ
 have d3:= @io
 exact go2
def rZ (s:bj) (h:List Ext) (a:(Ext×Ext×Ext)):Option (List Ext):=
 br (decide (0<=s.Cols)) (
 br (zg (bC .i64 1 s.Cols) (bC .i64 1 s.Cols) 16) (
 (sY h).bind fun e=>
 (fu s).bind fun b=>
 (Loop (ia e b.1 b.2.1 b.2.2 (0:Int) b.1 (b.1.length:Int) s.Rows s.Cols s.Publics s.A s.B s.C a.1.A a.1.B a.2.1.A a.2.1.B a.2.2.A a.2.2.B) ((List.replicate ((bC .i64 (1:Int) s.Cols).toNat) (Ext.mk (0:Int) (0:Int))),(0:Int))).bind fun f=>
 (Loop (oI e b.1 b.2.1 b.2.2 b.2.1 (b.2.1.length:Int) s.Rows s.Cols s.Publics s.A s.B s.C a.1.A a.1.B a.2.1.A a.2.1.B a.2.2.A a.2.2.B) (f.1,0)).bind fun d=>
 (Loop (oE e b.1 b.2.1 b.2.2 b.2.2 (b.2.2.length:Int) s.Rows s.Cols s.Publics s.A s.B s.C a.1.A a.1.B a.2.1.A a.2.1.B a.2.2.A a.2.2.B) (d.1,0)).bind fun c=>
 some c.1) none) none
theorem QT {s b a r} (h:rZ s b a=some r):Call tab ow 293 [.agg [I s.Rows,I s.Cols,I s.Publics,sl aA s.A,sl aA s.B,sl aA s.C],sl eExt b,.agg [I a.1.A,I a.1.B,I a.2.1.A,I a.2.1.B,I a.2.2.A,I a.2.2.B]] []=some (sl eExt r,[]):=by
 rw [aj (af:=sc) rfl]
 unfold rZ at h
 simp+decide only [sc,su,go_sem,reduceIte,Nat.reduceAdd,Int.reduceAdd,Int.reduceMul,Int.reduceSub]
 obtain ⟨hb,h⟩:=brg h
 refine Jp hb ?_
 obtain ⟨hb,h⟩:=brg h
 refine Jp hb ?_
 obtain ⟨r_,h1,h⟩:=bd h
 refine og (GF h1) ?_
 simp+decide only [go_sem,reduceIte,Nat.reduceAdd,Int.reduceAdd,Int.reduceMul,Int.reduceSub]
 obtain ⟨r_2,h1,h⟩:=bd h
 refine yG (pc h1) ?_
 simp+decide only [go_sem,reduceIte,Nat.reduceAdd,Int.reduceAdd,Int.reduceMul,Int.reduceSub]
 refine k8 ?_
 simp+decide only [mkL,go_sem,reduceIte,Nat.reduceAdd,Int.reduceAdd,Int.reduceMul,Int.reduceSub]
 obtain ⟨e_,h1,h⟩:=bd h
 refine Jr (lxE MZ h1) ?_
 simp+decide only [go_sem,reduceIte,Nat.reduceAdd,Int.reduceAdd,Int.reduceMul,Int.reduceSub]
 refine k8 ?_
 simp+decide only [mkL,go_sem,reduceIte,Nat.reduceAdd,Int.reduceAdd,Int.reduceMul,Int.reduceSub]
 obtain ⟨e_2,h1,h⟩:=bd h
 refine Jr (lxE MS h1) ?_
 simp+decide only [go_sem,reduceIte,Nat.reduceAdd,Int.reduceAdd,Int.reduceMul,Int.reduceSub]
 refine k8 ?_
 simp+decide only [mkL,go_sem,reduceIte,Nat.reduceAdd,Int.reduceAdd,Int.reduceMul,Int.reduceSub]
 obtain ⟨e_3,h1,h⟩:=bd h
 refine Jr (lxE Mi h1) ?_
 simp+decide only [go_sem,reduceIte,Nat.reduceAdd,Int.reduceAdd,Int.reduceMul,Int.reduceSub]
 refine k8 ?_
 simp+decide only [mkL,go_sem,reduceIte,Nat.reduceAdd,Int.reduceAdd,Int.reduceMul,Int.reduceSub]
 obtain rfl:=cY h
 first|rfl| (simp only [bf,go_sem];done)
end
def xN (i t:List Ext) (e c k:Int):Int×Int×Int->Option ((Int×Int×Int)⊕((Int×Bool×Int×Int)))
 | (a,f,d)=>
   br (decide (a<e)) (
   (atL t a).bind fun x=>
   (atL i a).bind fun h=>
   (dc x h).bind fun j=>
   (fP (Ext.mk f d) j).bind fun b=>
   some (.inl ((wrap .i64 (a+1)),b.A,b.B))) (
   some (.inr (a,decide (a<e),f,d)))
abbrev Mm (c a b d:Int):List (Nat×Blk):=[(1000,⟨2,true,[[I c,I a]]⟩),(2001,⟨2,true,[[I b,I d]]⟩)]
theorem a84 {a t d c b}:LX tab ow (.close [5003,6006,6007]) Vz (xN a t d c b) (fun s=>⟨[(1,sl eExt a),(4,.ptr 1000 0 0 1),(5,.ptr 2001 0 0 1),(9,sl eExt t),(10,I d),(11,I s.1)],Mm c b s.2.1 s.2.2⟩) (fun e=>(.exit 0,⟨[(1,sl eExt a),(4,.ptr 1000 0 0 1),(5,.ptr 2001 0 0 1),(9,sl eExt t),(10,I d),(11,I e.1),(12,B e.2.1)],Mm c b e.2.2.1 e.2.2.2⟩)):=by
 refine lrX (fun s o h=> ?_)
 obtain ⟨_,_,_⟩:=s
 simp only [xN] at h
 simp only [Mm,Vz,Wa]
 have d1:= @eY
 have d2:= @io
 exact go2
def KP (a b:List Ext):Option Ext:=
 (Loop (xN b a (a.length:Int) 0 0) (0,0,0)).bind fun c=>
 some (Ext.mk c.2.2.1 c.2.2.2)
theorem a7R {a b r} (h:KP a b=some r):Call tab ow 101 [sl eExt a,sl eExt b] []=some (.agg [I r.A,I r.B],[]):=by
 rw [aj (af:=Pe) rfl]
 unfold KP at h
 simp only [Pe,ZD]
 have d1:= @a84
 exact go2
def tF (a:Int):Option Int:=
 (RV a 2130706431).bind fun b=>
 some b
theorem NP {a r} (h:tF a=some r):Call tab ow 369 [I a] []=some (I r,[]):=by
 rw [aj (af:=zM) rfl]
 unfold tF at h
 simp only [zM,N5]
 have d1:= @Xq
 exact go2
def o4 (n i:Int) (a b r:Ext):Option Ext:=
 (tF 2).bind fun h=>
 (Kp n).bind fun p=>
 (Qi p).bind fun j=>
 (RV j i).bind fun q=>
 (fP a b).bind fun l=>
 (ik l h).bind fun o=>
 (iv a b).bind fun k=>
 (dc r k).bind fun m=>
 (tF q).bind fun c=>
 (yk h c).bind fun e=>
 (ik m e).bind fun d=>
 (fP o d).bind fun f=>
 some f
theorem YH {n i a b c r} (h:o4 n i a b c=some r):Call tab ow 328 [I n,I i,.agg [I a.A,I a.B],.agg [I b.A,I b.B],.agg [I c.A,I c.B]] []=some (.agg [I r.A,I r.B],[]):=by
 rw [aj (af:=wF) rfl]
 unfold o4 at h
 simp only [wF,Lc]
 have d1:= @NP
 have d2:= @Wb
 have d3:= @b4n
 have d4:= @Xq
 have d5:= @io
 have d6:= @nJ
 have d7:= @mO
 have d8:= @eY
 have d9:= @Pp
 exact go2
def oz (t:List UInt8) (b:Int):Int×Int->Option ((Int×Int)⊕((Int×Int×Bool)))
 | (n,a)=>
   br (decide (a<b)) (
   (atL t a).bind fun x=>
   some (.inl ((xi .i64 (bC .i64 n 8) (wrap .i64 (x.toNat:Int))),(wrap .i64 (a+1))))) (
   some (.inr (n,a,decide (a<b))))
theorem ZR {t a}:LX tab ow (.close []) K2 (oz t a) (fun s=>⟨[(3,I s.1),(6,sl eU8 t),(7,I a),(8,I s.2)],[]⟩) (fun e=>(.exit 0,⟨[(3,I e.1),(6,sl eU8 t),(7,I a),(8,I e.2.1),(9,B e.2.2)],[]⟩)):=by
 refine lrX (fun s o h=> ?_)
 obtain ⟨_,_⟩:=s
 simp only [oz] at h
 simp only [K2,Kx]
 exact go2
def Gl (b:List UInt8):Option Int:=
 (Loop (oz b (b.length:Int)) (0,0)).bind fun a=>
 some a.1
theorem a59 {b r} (h:Gl b=some r):Call tab ow 297 [sl eU8 b] []=some (I r,[]):=by
 rw [aj (af:=Dh) rfl]
 unfold Gl at h
 simp only [Dh,Jd]
 have d1:= @ZR
 exact go2
section
@[local go_sem] theorem a8o:mkR 2003 []=rws eU8 []:=rfl
@[local go_sem] theorem a9Z:mkR 2007 []=rws (eL eU8) []:=rfl
def px (s:Source) (a b:Int):Option Bool:=
 br (cP s.State.length 1) (
 (Fg b).bind fun e=>
 (sB ([s.State,([(103:UInt8),(114:UInt8),(105:UInt8),(110:UInt8),(100:UInt8)]:List UInt8),e]:List (List UInt8))).bind fun c=>
 br (cP c.length 1) (
 (l6 c 0 4).bind fun y=>
 (Gl y).bind fun d=>
 br (decide (0<=(wrap .i64 (32-a)))) (
 some ((bW .i64 d (wrap .i64 (32-a)))==0)) none) none) none
theorem OI {s b a r} (h:px s b a=some r):Call tab ow 224 [.agg [sl eExt s.Script,I s.At,S s.State,I s.Count],I b,I a] []=some (B r,[]):=by
 rw [aj (af:=qa) rfl]
 unfold px at h
 simp only [qa,Es]
 have d1:= @KL
 have d2:= @y8
 have d3:= @a59
 exact go2
end
section
@[local go_sem] theorem c1L:mkR 2000 []=rws eI []:=rfl
@[local go_sem] theorem c1O:mkR 6005 []=rws eI []:=rfl
def m6 (a:Int) (t:List Ext) (c:Int):(List Int)×Int->Option (((List Int)×Int)⊕(((List Int)×Int×Bool)))
 | (l,b)=>
   br (decide (b<c)) (
   (atL t b).bind fun x=>
   br (decide (a≠0)) (
   br (cP ((l++([(x.A.tmod a)]:List Int)).length) 8) (
   some (.inl ((l++([(x.A.tmod a)]:List Int)),(wrap .i64 (b+1))))) none) none) (
   some (.inr (l,b,decide (b<c))))
theorem Zo {a t b}:LX tab ow (.close [5002,6005,6006]) L0 (m6 a t b) (fun s=>⟨[(1,I a),(5,.sl 2000 0 s.1.length),(9,sl eExt t),(10,I b),(11,I s.2)],[(2000,⟨1,false,rws eI s.1⟩)]⟩) (fun e=>(.exit 0,⟨[(1,I a),(5,.sl 2000 0 e.1.length),(9,sl eExt t),(10,I b),(11,I e.2.1),(12,B e.2.2)],[(2000,⟨1,false,rws eI e.1⟩)]⟩)):=by
 refine lrX (fun s o h=> ?_)
 obtain ⟨_,_⟩:=s
 simp only [m6] at h
 simp only [L0,K9]
 exact go2
def Fj (a:List Ext) (b:Int):Option (List Int):=
 (Loop (m6 b a (a.length:Int)) (([]:List Int),0)).bind fun c=>
 some c.1
theorem a5d {b a r} (h:Fj b a=some r):Call tab ow 226 [sl eExt b,I a] []=some (sl eI r,[]):=by
 rw [aj (af:=Dn) rfl]
 unfold Fj at h
 simp only [Dn,JG]
 have d1:= @Zo
 exact go2
end
def fI (x:Int):Option Bool:=
 some (x !=x)
theorem ww {x r} (h:fI x=some r):Call tab ow 387 [I x] []=some (B r,[]):=by
 rw [aj (af:=fL) rfl]
 unfold fI at h
 simp only [fL,mo]
 exact go2
def dl (x y:Int):Option Int:=
 (fI x).bind fun b=>
 (fI y).bind fun a=>
 br b (
 br a (
 some 0) (
 some (-1:Int))) (
 br a (
 some 1) (
 br (decide (x<y)) (
 some (-1:Int)) (
 br (decide (x>y)) (
 some 1) (
 some 0))))
theorem s5 {x y r} (h:dl x y=some r):Call tab ow 350 [I x,I y] []=some (I r,[]):=by
 rw [aj (af:=en) rfl]
 unfold dl at h
 simp only [en,k9]
 have d1:= @ww
 exact go2
def bN (b:Int) (t:List Int) (c:Int):Int->Option ((Int)⊕(Int⊕(Int×Bool)))
 |a=>
  br (decide (a<c)) (
  (atL t a).bind fun x=>
  br (x !=b) (
  some (.inr (.inl x))) (
  some (.inl (wrap .i64 (a+1))))) (
  some (.inr (.inr (a,decide (a<c)))))
theorem z8 {a t b}:LX tab ow (.close []) nG (bN a t b) (fun s=>⟨[(3,I a),(6,sl eI t),(7,I b),(8,I s)],[]⟩) (alt (fun e=>((.ret,⟨[(2,I e)],[]⟩):bR×St)) (fun e=>(.exit 0,⟨[(3,I a),(6,sl eI t),(7,I b),(8,I e.1),(9,B e.2)],[]⟩))):=by
 refine lrX (fun s o h=> ?_)
 simp only [bN] at h
 simp only [nG,nL]
 exact go2
def jz (a:List Int):Option Int:=
 (Loop (bN 0 a (a.length:Int)) 0).bind (alt (fun b=>
 some b) (fun c=>
 some 0))
theorem CD {a r} (h:jz a=some r):Call tab ow 349 [sl eI a] []=some (I r,[]):=by
 rw [aj (af:=jb) rfl]
 unfold jz at h
 simp only [jb,mf]
 have d1:= @z8
 exact go2
section
@[local go_sem] theorem Bi:mkR 2010 []=rws eI []:=rfl
def gp (c f:au):Option Int:=
 (dl c.Row f.Row).bind fun d=>
 (dl c.Col f.Col).bind fun b=>
 (jz ([d,b]:List Int)).bind fun a=>
 some a
theorem wd {a f r} (h:gp a f=some r):Call tab ow 288 [.agg [I a.Row,I a.Col,I a.Value],.agg [I f.Row,I f.Col,I f.Value]] []=some (I r,[]):=by
 rw [aj (af:=fK) rfl]
 unfold gp at h
 simp only [fK,mG]
 have d1:= @s5
 have d2:= @CD
 exact go2
end
def o7 (d:List au) (c b:Int) (t:List au) (i:Int):Int->Option ((Int)⊕((Int×Int×Int)⊕(Int×Bool)))
 |a=>
  br (decide (a<i)) (
  (atL t a).bind fun x=>
  (jx x.Row 0 (wrap .i64 (c-1))).bind fun k=>
  br (!k) (
  some (.inr (.inl (x.Row,x.Col,x.Value)))) (
  (jx x.Col 0 (wrap .i64 (b-1))).bind fun h=>
  br (!h) (
  some (.inr (.inl (x.Row,x.Col,x.Value)))) (
  (jx x.Value 1 2130706432).bind fun f=>
  br (!f) (
  some (.inr (.inl (x.Row,x.Col,x.Value)))) (
  br (decide (a>0)) (
  (atL d (wrap .i64 (a-1))).bind fun j=>
  (gp j x).bind fun e=>
  br (decide (e>=0)) (
  some (.inr (.inl (x.Row,x.Col,x.Value)))) (
  some (.inl (wrap .i64 (a+1))))) (
  some (.inl (wrap .i64 (a+1)))))))) (
  some (.inr (.inr (a,decide (a<i)))))
theorem QO {a c b t d}:LX tab ow (.close [4003,5004,5011,5017,5030]) EY (o7 a c b t d) (fun s=>⟨[(0,sl aA a),(1,I c),(2,I b),(9,sl aA t),(10,I d),(11,I s)],[]⟩) (alt (fun e=>((.ret,⟨[(6,B false)],[(4003,⟨3,true,[[I e.1,I e.2.1,I e.2.2]]⟩)]⟩):bR×St)) (fun e=>(.exit 0,⟨[(0,sl aA a),(1,I c),(2,I b),(9,sl aA t),(10,I d),(11,I e.1),(12,B e.2)],[]⟩))):=by
 refine lrX (fun s o h=> ?_)
 simp only [o7] at h
 simp only [EY,FL]
 have d1:= @y9
 have d2:= @wd
 exact go2
def qO (a:List au) (b c:Int):Option Bool:=
 (Loop (o7 a b c a (a.length:Int)) 0).bind (alt (fun e=>
 some false) (fun d=>
 some (decide ((a.length:Int)<=200))))
theorem CP {a b c r} (h:qO a b c=some r):Call tab ow 178 [sl aA a,I b,I c] []=some (B r,[]):=by
 rw [aj (af:=wP) rfl]
 unfold qO at h
 simp only [wP,D5]
 have d1:= @QO
 exact go2
def tz (s:bj):Option Bool:=
 (jx s.Rows 1 5).bind fun i=>
 br (!i) (
 some false) (
 (jx s.Cols 2 5).bind fun h=>
 br (!h) (
 some false) (
 (eX s).bind fun f=>
 (jx s.Publics 0 (wrap .i64 (f-1))).bind fun b=>
 br (!b) (
 some false) (
 (fu s).bind fun a=>
 br (decide (0<=s.Rows)) (
 br (decide (0<=s.Cols)) (
 (qO a.1 (bC .i64 1 s.Rows) (bC .i64 1 s.Cols)).bind fun d=>
 br (!d) (
 some false) (
 br (decide (0<=s.Rows)) (
 br (decide (0<=s.Cols)) (
 (qO a.2.1 (bC .i64 1 s.Rows) (bC .i64 1 s.Cols)).bind fun e=>
 br (!e) (
 some false) (
 br (decide (0<=s.Rows)) (
 br (decide (0<=s.Cols)) (
 (qO a.2.2 (bC .i64 1 s.Rows) (bC .i64 1 s.Cols)).bind fun c=>
 br (!c) (
 some false) (
 some true)) none) none)) none) none)) none) none)))
theorem L8 {s r} (h:tz s=some r):Call tab ow 86 [.agg [I s.Rows,I s.Cols,I s.Publics,sl aA s.A,sl aA s.B,sl aA s.C]] []=some (B r,[]):=by
 rw [aj (af:=wZ) rfl]
 unfold tz at h
 simp+decide only [wZ,Cy,go_sem,reduceIte,Nat.reduceAdd,Int.reduceAdd,Int.reduceMul,Int.reduceSub]
 obtain ⟨r_,h1,h⟩:=bd h
 refine og (y9 h1) ?_
 simp+decide only [go_sem,reduceIte,Nat.reduceAdd,Int.reduceAdd,Int.reduceMul,Int.reduceSub]
 rcases brc h with ⟨hb,h⟩|⟨hb,h⟩
 ·refine Jp hb ?_
  obtain rfl:=cY h
  first|rfl| (simp only [bf,go_sem];done)
 ·refine a9s hb ?_
  obtain ⟨r_2,h1,h⟩:=bd h
  refine og (y9 h1) ?_
  simp+decide only [go_sem,reduceIte,Nat.reduceAdd,Int.reduceAdd,Int.reduceMul,Int.reduceSub]
  rcases brc h with ⟨hb,h⟩|⟨hb,h⟩
  ·refine Jp hb ?_
   obtain rfl:=cY h
   first|rfl| (simp only [bf,go_sem];done)
  ·refine a9s hb ?_
   obtain ⟨r_3,h1,h⟩:=bd h
   refine og (mM h1) ?_
   simp+decide only [go_sem,reduceIte,Nat.reduceAdd,Int.reduceAdd,Int.reduceMul,Int.reduceSub]
   obtain ⟨r_4,h1,h⟩:=bd h
   refine og (y9 h1) ?_
   simp+decide only [go_sem,reduceIte,Nat.reduceAdd,Int.reduceAdd,Int.reduceMul,Int.reduceSub]
   rcases brc h with ⟨hb,h⟩|⟨hb,h⟩
   ·refine Jp hb ?_
    obtain rfl:=cY h
    first|rfl| (simp only [bf,go_sem];done)
   ·refine a9s hb ?_
    obtain ⟨r_5,h1,h⟩:=bd h
    refine yG (pc h1) ?_
    simp+decide only [go_sem,reduceIte,Nat.reduceAdd,Int.reduceAdd,Int.reduceMul,Int.reduceSub]
    refine k8 ?_
    simp+decide only [mkL,go_sem,reduceIte,Nat.reduceAdd,Int.reduceAdd,Int.reduceMul,Int.reduceSub]
    obtain ⟨hb,h⟩:=brg h
    refine Jp hb ?_
    obtain ⟨hb,h⟩:=brg h
    refine Jp hb ?_
    obtain ⟨r_6,h1,h⟩:=bd h
    refine og (CP h1) ?_
    simp+decide only [go_sem,reduceIte,Nat.reduceAdd,Int.reduceAdd,Int.reduceMul,Int.reduceSub]
    rcases brc h with ⟨hb,h⟩|⟨hb,h⟩
    ·refine Jp hb ?_
     obtain rfl:=cY h
     first|rfl| (simp only [bf,go_sem];done)
    ·refine a9s hb ?_
     refine k8 ?_
     simp+decide only [mkL,go_sem,reduceIte,Nat.reduceAdd,Int.reduceAdd,Int.reduceMul,Int.reduceSub]
     obtain ⟨hb,h⟩:=brg h
     refine Jp hb ?_
     obtain ⟨hb,h⟩:=brg h
     refine Jp hb ?_
     obtain ⟨r_7,h1,h⟩:=bd h
     refine og (CP h1) ?_
     simp+decide only [go_sem,reduceIte,Nat.reduceAdd,Int.reduceAdd,Int.reduceMul,Int.reduceSub]
     rcases brc h with ⟨hb,h⟩|⟨hb,h⟩
     ·refine Jp hb ?_
      obtain rfl:=cY h
      first|rfl| (simp only [bf,go_sem];done)
     ·refine a9s hb ?_
      refine k8 ?_
      simp+decide only [mkL,go_sem,reduceIte,Nat.reduceAdd,Int.reduceAdd,Int.reduceMul,Int.reduceSub]
      obtain ⟨hb,h⟩:=brg h
      refine Jp hb ?_
      obtain ⟨hb,h⟩:=brg h
      refine Jp hb ?_
      obtain ⟨r_8,h1,h⟩:=bd h
      refine og (CP h1) ?_
      simp+decide only [go_sem,reduceIte,Nat.reduceAdd,Int.reduceAdd,Int.reduceMul,Int.reduceSub]
      rcases brc h with ⟨hb,h⟩|⟨hb,h⟩
      ·refine Jp hb ?_
       obtain rfl:=cY h
       first|rfl| (simp only [bf,go_sem];done)
      ·refine a9s hb ?_
       refine k8 ?_
       simp+decide only [mkL,go_sem,reduceIte,Nat.reduceAdd,Int.reduceAdd,Int.reduceMul,Int.reduceSub]
       obtain rfl:=cY h
       first|rfl| (simp only [bf,go_sem];done)
def pC (a:List Ext) (m:Int):Option (Bool×Int):=
 br ((a.length:Int) !=m) (
 some (true,m)) (
 (gu a).bind fun b=>
 some ((!b),m))
theorem Oe {a m r} (h:pC a m=some r):Call tab ow 237 [sl eExt a,.ptr 0 0 0 1] [⟨1,true,[[I m]]⟩]=some (B r.1,[⟨1,true,[[I r.2]]⟩]):=by
 rw [aj (af:=pR) rfl]
 unfold pC at h
 simp only [pR,Er]
 have d1:= @pv
 exact go2
end
end Go.AI.Fn
set_option linter.unusedVariables false
set_option linter.unusedSimpArgs false
set_option maxRecDepth 100000
set_option maxHeartbeats 1000000
namespace Go.AI.Fn
noncomputable section
open IntKind (wrap)
def cG (d:List (List Ext)) (t:Int):Int×Int->Option ((Int×Int)⊕((Int×Int)⊕(Int×Bool×Int)))
 | (a,c)=>
   br (decide (a<t)) (
   (atL d a).bind fun x=>
   (pC x c).bind fun b=>
   br b.1 (
   some (.inr (.inl (a,b.2)))) (
   some (.inl ((wrap .i64 (a+1)),b.2)))) (
   some (.inr (.inr (a,decide (a<t),c))))
theorem kw {a t}:LX tab ow (.close [5005]) jg (cG a t) (fun s=>⟨[(0,sl (eL eExt) a),(1,.fn 237 [.ptr 0 0 0 1]),(7,I t),(8,I s.1)],[(0,⟨1,true,[[I s.2]]⟩)]⟩) (alt (fun e=>((.ret,⟨[(4,I e.1)],[(0,⟨1,true,[[I e.2]]⟩)]⟩):bR×St)) (fun e=>(.exit 0,⟨[(0,sl (eL eExt) a),(1,.fn 237 [.ptr 0 0 0 1]),(7,I t),(8,I e.1),(9,B e.2.1)],[(0,⟨1,true,[[I e.2.2]]⟩)]⟩))):=by
 refine lrX (fun s o h=> ?_)
 obtain ⟨_,_⟩:=s
 simp only [cG] at h
 simp only [jg,jd]
 have d1:= @Oe
 exact go2
def cW (s:(List (List Ext))) (m:Int):Option (Int×Int):=
 (Loop (cG s (s.length:Int)) (0,m)).bind (alt (fun a=>
 some (a.1,a.2)) (fun b=>
 some ((-1:Int),b.2.2)))
theorem kN {s m r} (h:cW s m=some r):Call tab ow 332 [sl (eL eExt) s,.fn 237 [.ptr 0 0 0 1]] [⟨1,true,[[I m]]⟩]=some (I r.1,[⟨1,true,[[I r.2]]⟩]):=by
 rw [aj (af:=dZ) rfl]
 unfold cW at h
 simp only [dZ,gg]
 have d1:= @kw
 exact go2
def cK (s:(List (List Ext))) (m:Int):Option (Bool×Int):=
 (cW s m).bind fun a=>
 some (decide (a.1>=0),a.2)
theorem jV {s m r} (h:cK s m=some r):Call tab ow 236 [sl (eL eExt) s,.fn 237 [.ptr 0 0 0 1]] [⟨1,true,[[I m]]⟩]=some (B r.1,[⟨1,true,[[I r.2]]⟩]):=by
 rw [aj (af:=dF) rfl]
 unfold cK at h
 simp only [dF,iT]
 have d1:= @kN
 exact go2
def nV (a:(List (List Ext))) (b c:Int):Option Bool:=
 br ((a.length:Int)==b) (
 (cK a c).bind fun d=>
 some (!d.1)) (
 some false)
theorem Ii {a b c r} (h:nV a b c=some r):Call tab ow 117 [sl (eL eExt) a,I b,I c] []=some (B r,[]):=by
 rw [aj (af:=uH) rfl]
 unfold nV at h
 simp only [uH,IY]
 have d1:= @jV
 exact go2
def i0 (x:List UInt8):Option Bool:=
 (vV x).bind fun a=>
 some (!a)
theorem Cf {x r} (h:i0 x=some r):Call tab ow 239 [S x,.ptr 0 0 0 1] [⟨1,true,[[.fn 119 []]]⟩]=some (B r,[⟨1,true,[[.fn 119 []]]⟩]):=by
 rw [aj (af:=oT) rfl]
 unfold i0 at h
 simp only [oT,Ce]
 have d1:= @CR
 exact go2
def bY (c:List (List UInt8)) (t:Int):Int->Option ((Int)⊕(Int⊕(Int×Bool)))
 |a=>
  br (decide (a<t)) (
  (atL c a).bind fun x=>
  (i0 x).bind fun b=>
  br b (
  some (.inr (.inl a))) (
  some (.inl (wrap .i64 (a+1))))) (
  some (.inr (.inr (a,decide (a<t)))))
theorem iw {a t}:LX tab ow (.close [5005]) dO (bY a t) (fun s=>⟨[(0,sl eS a),(1,.fn 239 [.ptr 0 0 0 1]),(7,I t),(8,I s)],[(0,⟨1,true,[[.fn 119 []]]⟩)]⟩) (alt (fun e=>((.ret,⟨[(4,I e)],[(0,⟨1,true,[[.fn 119 []]]⟩)]⟩):bR×St)) (fun e=>(.exit 0,⟨[(0,sl eS a),(1,.fn 239 [.ptr 0 0 0 1]),(7,I t),(8,I e.1),(9,B e.2)],[(0,⟨1,true,[[.fn 119 []]]⟩)]⟩))):=by
 refine lrX (fun s o h=> ?_)
 simp only [bY] at h
 simp only [dO,fG]
 have d1:= @Cf
 exact go2
def cp (s:(List (List UInt8))):Option Int:=
 (Loop (bY s (s.length:Int)) 0).bind (alt (fun a=>
 some a) (fun b=>
 some (-1:Int)))
theorem iZ {s r} (h:cp s=some r):Call tab ow 333 [sl eS s,.fn 239 [.ptr 0 0 0 1]] [⟨1,true,[[.fn 119 []]]⟩]=some (I r,[⟨1,true,[[.fn 119 []]]⟩]):=by
 rw [aj (af:=cN) rfl]
 unfold cp at h
 simp only [cN,e6]
 have d1:= @iw
 exact go2
def cc (s:(List (List UInt8))):Option Bool:=
 (cp s).bind fun a=>
 some (decide (a>=0))
theorem ip {s r} (h:cc s=some r):Call tab ow 238 [sl eS s,.fn 239 [.ptr 0 0 0 1]] [⟨1,true,[[.fn 119 []]]⟩]=some (B r,[⟨1,true,[[.fn 119 []]]⟩]):=by
 rw [aj (af:=cx) rfl]
 unfold cc at h
 simp only [cx,fq]
 have d1:= @iZ
 exact go2
def gG (a:(List (List UInt8))):Option Bool:=
 (cc a).bind fun b=>
 some (!b)
theorem sU {a r} (h:gG a=some r):Call tab ow 118 [.fn 119 [],sl eS a] []=some (B r,[]):=by
 rw [aj (af:=sg) rfl]
 unfold gG at h
 simp only [sg,Gj]
 have d1:= @ip
 exact go2
def kC (a:Int) (f:List (List (List UInt8))) (e:Int) (c:List Ext) (i:List (List (List UInt8))) (h j k:Int):Int->Option ((Int)⊕(Unit⊕(Int×Bool)))
 |b=>
  br (decide (b<e)) (
  (atL f b).bind fun x=>
  br ((x.length:Int) !=(wrap .i64 ((wrap .i64 ((wrap .i64 (a+h))-1))-b))) (
  some (.inr (.inl ()))) (
  (gG x).bind fun d=>
  br (!d) (
  some (.inr (.inl ()))) (
  some (.inl (wrap .i64 (b+1)))))) (
  some (.inr (.inr (b,decide (b<e)))))
abbrev ue (c:List Ext) (a:List (List (List UInt8))) (d e b:Int):List (Nat×Blk):=[(1000,⟨2,true,[[sl eExt c,sl (eL eS) a]]⟩),(1001,⟨3,true,[[I d,I e,I b]]⟩)]
theorem UN {a j k c b i d f}:LX tab ow (.close [7012]) J2 (kC a j k c b i d f) (fun s=>⟨[(1,I a),(5,.ptr 1001 0 0 1),(29,sl (eL eS) j),(30,I k),(31,I s)],ue c b i d f⟩) (alt (fun e=>((.ret,⟨[(6,B false)],ue c b i d f⟩):bR×St)) (fun e=>(.exit 0,⟨[(1,I a),(5,.ptr 1001 0 0 1),(29,sl (eL eS) j),(30,I k),(31,I e.1),(32,B e.2)],ue c b i d f⟩))):=by
 refine lrX (fun s o h=> ?_)
 simp only [kC] at h
 simp only [ue,J2,HX]
 have d1:= @sU
 exact go2
def xR (q:Query) (a:Int) (t:Setting):Option Bool:=
 br ((q.Pairs.length:Int) !=(wrap .i64 (2*a))) (
 some false) (
 (gu q.Pairs).bind fun d=>
 br (!d) (
 some false) (
 br ((q.Paths.length:Int) !=a) (
 some false) (
 (Loop (kC a q.Paths (q.Paths.length:Int) q.Pairs q.Paths t.Rate t.Queries t.Grind) 0).bind (alt (fun c=>
 some false) (fun b=>
 some true)))))
theorem a3m {q a t r} (h:xR q a t=some r):Call tab ow 122 [.agg [sl eExt q.Pairs,sl (eL eS) q.Paths],I a,.agg [I t.Rate,I t.Queries,I t.Grind]] []=some (B r,[]):=by
 rw [aj (af:=Ab) rfl]
 unfold xR at h
 simp only [Ab,G5]
 have d1:= @pv
 have d2:= @UN
 exact go2
def uk (q:Query) (m:Int) (a:Setting):Option (Bool×Int×Setting):=
 (xR q m a).bind fun b=>
 some (b,m,a)
theorem OT {q m a r} (h:uk q m a=some r):Call tab ow 121 [.agg [sl eExt q.Pairs,sl (eL eS) q.Paths],.ptr 0 0 0 1,.ptr 1 0 0 1] [⟨1,true,[[I m]]⟩,⟨3,true,[[I a.Rate,I a.Queries,I a.Grind]]⟩]=some (B r.1,[⟨1,true,[[I r.2.1]]⟩,⟨3,true,[[I r.2.2.Rate,I r.2.2.Queries,I r.2.2.Grind]]⟩]):=by
 rw [aj (af:=q9) rfl]
 unfold uk at h
 simp only [q9,E4]
 have d1:= @a3m
 exact go2
def dx (x:Query) (m:Int) (b:Setting):Option (Bool×Int×Setting):=
 (uk x m b).bind fun a=>
 some ((!a.1),a.2.1,a.2.2)
theorem uW {x m a r} (h:dx x m a=some r):Call tab ow 241 [.agg [sl eExt x.Pairs,sl (eL eS) x.Paths],.ptr 0 0 0 1] [⟨1,true,[[.fn 121 [.ptr 1 0 0 1,.ptr 2 0 0 1]]]⟩,⟨1,true,[[I m]]⟩,⟨3,true,[[I a.Rate,I a.Queries,I a.Grind]]⟩]=some (B r.1,[⟨1,true,[[.fn 121 [.ptr 1 0 0 1,.ptr 2 0 0 1]]]⟩,⟨1,true,[[I r.2.1]]⟩,⟨3,true,[[I r.2.2.Rate,I r.2.2.Queries,I r.2.2.Grind]]⟩]):=by
 rw [aj (af:=nk) rfl]
 unfold dx at h
 simp only [nk,zX]
 have d1:= @OT
 exact go2
def bm (h:List Query) (t:Int):Int×Int×Int×Int×Int->Option ((Int×Int×Int×Int×Int)⊕((Int×Int×Int×Int×Int)⊕(Int×Bool×Int×Int×Int×Int)))
 | (b,c,d,f,e)=>
   br (decide (b<t)) (
   (atL h b).bind fun x=>
   (dx x c (Setting.mk d f e)).bind fun a=>
   br a.1 (
   some (.inr (.inl (b,a.2.1,a.2.2.Rate,a.2.2.Queries,a.2.2.Grind)))) (
   some (.inl ((wrap .i64 (b+1)),a.2.1,a.2.2.Rate,a.2.2.Queries,a.2.2.Grind)))) (
   some (.inr (.inr (b,decide (b<t),c,d,f,e))))
abbrev bI (c a b d:Int):List (Nat×Blk):=[(0,⟨1,true,[[.fn 121 [.ptr 1 0 0 1,.ptr 2 0 0 1]]]⟩),(1,⟨1,true,[[I c]]⟩),(2,⟨3,true,[[I a,I b,I d]]⟩)]
theorem gn {a t}:LX tab ow (.close [5005]) iB (bm a t) (fun s=>⟨[(0,sl eQuery a),(1,.fn 241 [.ptr 0 0 0 1]),(7,I t),(8,I s.1)],bI s.2.1 s.2.2.1 s.2.2.2.1 s.2.2.2.2⟩) (alt (fun e=>((.ret,⟨[(4,I e.1)],bI e.2.1 e.2.2.1 e.2.2.2.1 e.2.2.2.2⟩):bR×St)) (fun e=>(.exit 0,⟨[(0,sl eQuery a),(1,.fn 241 [.ptr 0 0 0 1]),(7,I t),(8,I e.1),(9,B e.2.1)],bI e.2.2.1 e.2.2.2.1 e.2.2.2.2.1 e.2.2.2.2.2⟩))):=by
 refine lrX (fun s o h=> ?_)
 obtain ⟨_,_,_,_,_⟩:=s
 simp only [bm] at h
 simp only [bI,iB,iE]
 have d1:= @uW
 exact go2
def bO (s:List Query) (m:Int) (c:Setting):Option (Int×Int×Setting):=
 (Loop (bm s (s.length:Int)) (0,m,c.Rate,c.Queries,c.Grind)).bind (alt (fun a=>
 some (a.1,a.2.1,(Setting.mk a.2.2.1 a.2.2.2.1 a.2.2.2.2))) (fun b=>
 some ((-1:Int),b.2.2.1,(Setting.mk b.2.2.2.1 b.2.2.2.2.1 b.2.2.2.2.2))))
theorem gM {s m a r} (h:bO s m a=some r):Call tab ow 334 [sl eQuery s,.fn 241 [.ptr 0 0 0 1]] [⟨1,true,[[.fn 121 [.ptr 1 0 0 1,.ptr 2 0 0 1]]]⟩,⟨1,true,[[I m]]⟩,⟨3,true,[[I a.Rate,I a.Queries,I a.Grind]]⟩]=some (I r.1,[⟨1,true,[[.fn 121 [.ptr 1 0 0 1,.ptr 2 0 0 1]]]⟩,⟨1,true,[[I r.2.1]]⟩,⟨3,true,[[I r.2.2.Rate,I r.2.2.Queries,I r.2.2.Grind]]⟩]):=by
 rw [aj (af:=dN) rfl]
 unfold bO at h
 simp only [dN,fF]
 have d1:= @gn
 exact go2
def bK (s:List Query) (m:Int) (b:Setting):Option (Bool×Int×Setting):=
 (bO s m b).bind fun a=>
 some (decide (a.1>=0),a.2.1,a.2.2)
theorem gk {s m a r} (h:bK s m a=some r):Call tab ow 240 [sl eQuery s,.fn 241 [.ptr 0 0 0 1]] [⟨1,true,[[.fn 121 [.ptr 1 0 0 1,.ptr 2 0 0 1]]]⟩,⟨1,true,[[I m]]⟩,⟨3,true,[[I a.Rate,I a.Queries,I a.Grind]]⟩]=some (B r.1,[⟨1,true,[[.fn 121 [.ptr 1 0 0 1,.ptr 2 0 0 1]]]⟩,⟨1,true,[[I r.2.1]]⟩,⟨3,true,[[I r.2.2.Rate,I r.2.2.Queries,I r.2.2.Grind]]⟩]):=by
 rw [aj (af:=dp) rfl]
 unfold bK at h
 simp only [dp,ir]
 have d1:= @gM
 exact go2
def hQ (a:List Query) (m:Int) (c:Setting):Option (Bool×Int×Setting):=
 (bK a m c).bind fun b=>
 some ((!b.1),b.2.1,b.2.2)
theorem xH {a m b r} (h:hQ a m b=some r):Call tab ow 120 [.fn 121 [.ptr 0 0 0 1,.ptr 1 0 0 1],sl eQuery a] [⟨1,true,[[I m]]⟩,⟨3,true,[[I b.Rate,I b.Queries,I b.Grind]]⟩]=some (B r.1,[⟨1,true,[[I r.2.1]]⟩,⟨3,true,[[I r.2.2.Rate,I r.2.2.Queries,I r.2.2.Grind]]⟩]):=by
 rw [aj (af:=pS) rfl]
 unfold hQ at h
 simp only [pS,EH]
 have d1:= @gk
 exact go2
def uT (b:Opening) (a:Int) (t:Setting):Option Bool:=
 (jx a 1 6).bind fun j=>
 br j (
 (nF t).bind fun i=>
 br i (
 (nV b.Rounds a 3).bind fun f=>
 br f (
 br ((b.Roots.length:Int)==(wrap .i64 (a-1))) (
 (gG b.Roots).bind fun c=>
 br c (
 (u6 b.Last).bind fun h=>
 br h (
 (jx b.Nonce 0 65535).bind fun d=>
 br d (
 br ((b.Queries.length:Int)==t.Queries) (
 (hQ b.Queries a t).bind fun e=>
 some e.1) (
 some false)) (
 some false)) (
 some false)) (
 some false)) (
 some false)) (
 some false)) (
 some false)) (
 some false)
theorem Ts {b a t r} (h:uT b a t=some r):Call tab ow 33 [.agg [sl (eL eExt) b.Rounds,sl eS b.Roots,I b.Last.A,I b.Last.B,I b.Nonce,sl eQuery b.Queries],I a,.agg [I t.Rate,I t.Queries,I t.Grind]] []=some (B r,[]):=by
 rw [aj (af:=u3) rfl]
 unfold uT at h
 simp only [u3,HV]
 have d1:= @y9
 have d2:= @AT
 have d3:= @Ii
 have d4:= @sU
 have d5:= @MH
 have d6:= @xH
 exact go2
def Ch (p:Proof) (s:bj) (t:Setting):Option Bool:=
 (tz s).bind fun k=>
 br k (
 (nF t).bind fun j=>
 br j (
 (vV p.Root).bind fun h=>
 br h (
 (nV p.Gates s.Rows 4).bind fun b=>
 br b (
 (u6 p.VA).bind fun i=>
 br i (
 (u6 p.VB).bind fun d=>
 br d (
 (u6 p.VC).bind fun f=>
 br f (
 (nV p.Wires s.Cols 3).bind fun c=>
 br c (
 (u6 p.VW).bind fun e=>
 br e (
 (uT p.Open (wrap .i64 (s.Cols-1)) t).bind fun a=>
 some a) (
 some false)) (
 some false)) (
 some false)) (
 some false)) (
 some false)) (
 some false)) (
 some false)) (
 some false)) (
 some false)
theorem a3B {p s t r} (h:Ch p s t=some r):Call tab ow 63 [.agg [S p.Root,sl (eL eExt) p.Gates,I p.VA.A,I p.VA.B,I p.VB.A,I p.VB.B,I p.VC.A,I p.VC.B,sl (eL eExt) p.Wires,I p.VW.A,I p.VW.B,sl (eL eExt) p.Open.Rounds,sl eS p.Open.Roots,I p.Open.Last.A,I p.Open.Last.B,I p.Open.Nonce,sl eQuery p.Open.Queries],.agg [I s.Rows,I s.Cols,I s.Publics,sl aA s.A,sl aA s.B,sl aA s.C],.agg [I t.Rate,I t.Queries,I t.Grind]] []=some (B r,[]):=by
 rw [aj (af:=Aq) rfl]
 unfold Ch at h
 simp only [Aq,Nk]
 have d1:= @L8
 have d2:= @AT
 have d3:= @CR
 have d4:= @Ii
 have d5:= @MH
 have d6:= @Ts
 exact go2
def vU (s:bj) (t:Setting) (a:List Int) (b:Source):Option Int:=
 br (decide ((a.length:Int)>4096)) (
 some 2) (
 (tz s).bind fun h=>
 br (!h) (
 some 1) (
 (nF t).bind fun f=>
 br (!f) (
 some 1) (
 (kj a).bind fun d=>
 br (!d) (
 some 1) (
 (yS b).bind fun c=>
 br (!c) (
 some 1) (
 br ((a.length:Int) !=s.Publics) (
 some 17) (
 (uG b).bind fun e=>
 br (decide (e<200)) (
 some 6) (
 some 0)))))))
theorem Tk {s t b a r} (h:vU s t b a=some r):Call tab ow 88 [.agg [I s.Rows,I s.Cols,I s.Publics,sl aA s.A,sl aA s.B,sl aA s.C],.agg [I t.Rate,I t.Queries,I t.Grind],sl eI b,.agg [sl eExt a.Script,I a.At,S a.State,I a.Count]] []=some (I r,[]):=by
 rw [aj (af:=u9) rfl]
 unfold vU at h
 simp only [u9,HH]
 have d1:= @L8
 have d2:= @AT
 have d3:= @Hp
 have d4:= @Ys
 have d5:= @OM
 exact go2
def mb (d:List Ext) (i:Int) (v:List Ext) (u w k q r t l o m p n:Int):Int×Int×Int->Option ((Int×Int×Int)⊕((Int×Bool×Int×Int)))
 | (a,b,c)=>
   br (decide (a<k)) (
   br (a !=i) (
   (iv (Ext.mk q r) (Ext.mk a 0)).bind fun s=>
   (dc (Ext.mk b c) s).bind fun j=>
   (Re i a).bind fun f=>
   (tF f).bind fun h=>
   (ik j h).bind fun e=>
   some (.inl ((wrap .i64 (a+1)),e.A,e.B))) (
   some (.inl ((wrap .i64 (a+1)),b,c)))) (
   some (.inr (a,decide (a<k),b,c)))
abbrev Dy (k i j d c a f b h e:Int):List (Nat×Blk):=[(1000,⟨2,true,[[I k,I i]]⟩),(1001,⟨2,true,[[I j,I d]]⟩),(2001,⟨2,true,[[I c,I a]]⟩),(5003,⟨2,true,[[I f,I b]]⟩),(6001,⟨2,true,[[I h,I e]]⟩)]
theorem WH {a i p m k r q l n d f b j c}:LX tab ow (.close [11004,11005,11008,11009,11010]) K3 (mb a i p m k r q l n d f b j c) (fun s=>⟨[(0,sl eExt a),(3,.ptr 1000 0 0 1),(4,.ptr 1001 0 0 1),(5,.ptr 2001 0 0 1),(6,I i),(8,.ptr 6001 0 0 1),(11,sl eExt p),(12,I m),(13,I k),(20,I r),(21,I s.1)],Dy q l n d f b j c s.2.1 s.2.2⟩) (fun e=>(.exit 2,⟨[(0,sl eExt a),(3,.ptr 1000 0 0 1),(4,.ptr 1001 0 0 1),(5,.ptr 2001 0 0 1),(6,I i),(8,.ptr 6001 0 0 1),(11,sl eExt p),(12,I m),(13,I k),(20,I r),(21,I e.1),(22,B e.2.1)],Dy q l n d f b j c e.2.2.1 e.2.2.2⟩)):=by
 refine lrX (fun s o h=> ?_)
 obtain ⟨_,_,_⟩:=s
 simp only [mb] at h
 simp only [Dy,K3,LR]
 have d1:= @mO
 have d2:= @eY
 have d3:= @a7G
 have d4:= @NP
 have d5:= @nJ
 exact go2
def m7 (a t:List Ext) (i c k m l:Int):Int×Int×Int->Option ((Int×Int×Int)⊕((Int×Bool×Int×Int)))
 | (b,f,h)=>
   br (decide (b<i)) (
   (atL t b).bind fun e=>
   (Loop (mb a b t i b (a.length:Int) c k m l f h e.A e.B) (0,e.A,e.B)).bind fun j=>
   (fP (Ext.mk f h) (Ext.mk j.2.2.1 j.2.2.2)).bind fun d=>
   some (.inl ((wrap .i64 (b+1)),d.A,d.B))) (
   some (.inr (b,decide (b<i),f,h)))
abbrev D1 (c a f b d e:Int):List (Nat×Blk):=[(1000,⟨2,true,[[I c,I a]]⟩),(1001,⟨2,true,[[I f,I b]]⟩),(2001,⟨2,true,[[I d,I e]]⟩)]
theorem Yt {a t f c b i d}:LX tab ow (.close [5003,6001,11004,11005,11008,11009,11010,13002]) KY (m7 a t f c b i d) (fun s=>⟨[(0,sl eExt a),(3,.ptr 1000 0 0 1),(4,.ptr 1001 0 0 1),(5,.ptr 2001 0 0 1),(11,sl eExt t),(12,I f),(13,I s.1)],D1 c b i d s.2.1 s.2.2⟩) (fun e=>(.exit 0,⟨[(0,sl eExt a),(3,.ptr 1000 0 0 1),(4,.ptr 1001 0 0 1),(5,.ptr 2001 0 0 1),(11,sl eExt t),(12,I f),(13,I e.1),(14,B e.2.1)],D1 c b i d e.2.2.1 e.2.2.2⟩)):=by
 refine lrX (fun s o h=> ?_)
 obtain ⟨_,_,_⟩:=s
 simp only [m7] at h
 simp only [D1,KY,KQ]
 have d1:= @WH
 have d2:= @io
 exact go2
def Bm (a:List Ext) (x:Ext):Option Ext:=
 (Loop (m7 a a (a.length:Int) x.A x.B 0 0) (0,0,0)).bind fun b=>
 some (Ext.mk b.2.2.1 b.2.2.2)
theorem Qk {a x r} (h:Bm a x=some r):Call tab ow 326 [sl eExt a,.agg [I x.A,I x.B]] []=some (.agg [I r.A,I r.B],[]):=by
 rw [aj (af:=Cw) rfl]
 unfold Bm at h
 simp only [Cw,DD]
 have d1:= @Yt
 exact go2
def Mq (a:Int):Option Unit:=
 some ()
theorem a2R {a r} (h:Mq a=some r):Call tab ow 298 [I a] []=some (.tup [],[]):=by
 rw [aj (af:=zR) rfl]
 unfold Mq at h
 simp only [zR,Ng]
 exact go2
section
@[local go_sem] theorem N3:mkR 2000 []=rws eExt []:=rfl
@[local go_sem] theorem NX:mkR 12005 []=rws eExt []:=rfl
def bH (b:Int) (t:List (List Ext)) (o v u:Int):(List Ext)×Int×(List Ext)×Int×(List UInt8)×Int×Int×Int->Option (((List Ext)×Int×(List Ext)×Int×(List UInt8)×Int×Int×Int)⊕(((List Ext)×Int×(List Ext)×Int×(List UInt8)×Int×Int×Int)⊕((List Ext)×Int×Bool×(List Ext)×Int×(List UInt8)×Int×Int×Int)))
 | (l,d,c,e,k,f,h,i)=>
   br (decide (d<o)) (
   (atL t d).bind fun x=>
   (qQ b).bind fun r=>
   br ((x.length:Int) !=(wrap .i64 (r+1))) (
   some (.inr (.inl (l,18,c,e,k,f,h,i)))) (
   (atL x 0).bind fun p=>
   (atL x 1).bind fun s=>
   (fP p s).bind fun m=>
   br (m.A==h) (
   br (m.B==i) (
   (cZ x (Source.mk c e k f)).bind fun n=>
   (je n).bind fun a=>
   (Bm x a.1).bind fun j=>
   br (cP ((l++([a.1]:List Ext)).length) 16) (
   (Mq d).bind fun q=>
   some (.inl ((l++([a.1]:List Ext)),(wrap .i64 (d+1)),a.2.Script,a.2.At,a.2.State,a.2.Count,j.A,j.B))) none) (
   some (.inr (.inl (l,10,c,e,k,f,h,i))))) (
   some (.inr (.inl (l,10,c,e,k,f,h,i)))))) (
   some (.inr (.inr (l,d,decide (d<o),c,e,k,f,h,i))))
abbrev i7 (i e:Int) (l c:List Ext) (a:Int) (h:List UInt8) (b d f:Int):List (Nat×Blk):=[(0,⟨4,true,[[sl eExt c,I a,S h,I b]]⟩),(1000,⟨2,true,[[I d,I f]]⟩),(1002,⟨2,true,[[I i,I e]]⟩),(2000,⟨2,false,rws eExt l⟩)]
theorem sV {a t d c b}:LX tab ow (.close [6003,8006,10002,11001,11002,12002,12005,12006,13002]) j6 (bH a t d c b) (fun s=>⟨[(0,.ptr 0 0 0 1),(1,I a),(4,.fn 298 []),(7,.ptr 1000 0 0 1),(11,.ptr 1002 0 0 1),(13,.sl 2000 0 s.1.length),(18,sl (eL eExt) t),(19,I d),(20,I s.2.1)],i7 c b s.1 s.2.2.1 s.2.2.2.1 s.2.2.2.2.1 s.2.2.2.2.2.1 s.2.2.2.2.2.2.1 s.2.2.2.2.2.2.2⟩) (alt (fun e=>((.ret,⟨[(10,.lit (.slice none 0 0)),(11,.ptr 1002 0 0 1),(12,I e.2.1)],[(0,⟨4,true,[[sl eExt e.2.2.1,I e.2.2.2.1,S e.2.2.2.2.1,I e.2.2.2.2.2.1]]⟩),(1000,⟨2,true,[[I e.2.2.2.2.2.2.1,I e.2.2.2.2.2.2.2]]⟩),(1002,⟨2,true,[[I 0,I 0]]⟩),(2000,⟨2,false,rws eExt e.1⟩)]⟩):bR×St)) (fun e=>(.exit 0,⟨[(0,.ptr 0 0 0 1),(1,I a),(4,.fn 298 []),(7,.ptr 1000 0 0 1),(11,.ptr 1002 0 0 1),(13,.sl 2000 0 e.1.length),(18,sl (eL eExt) t),(19,I d),(20,I e.2.1),(21,B e.2.2.1)],i7 c b e.1 e.2.2.2.1 e.2.2.2.2.1 e.2.2.2.2.2.1 e.2.2.2.2.2.2.1 e.2.2.2.2.2.2.2.1 e.2.2.2.2.2.2.2.2⟩))):=by
 refine lrX (fun s o h=> ?_)
 obtain ⟨_,_,_,_,_,_,_,_⟩:=s
 simp only [bH] at h
 simp only [i7,j6,mh]
 have d1:= @Lg
 have d2:= @io
 have d3:= @jL
 have d4:= @wq
 have d5:= @Qk
 have d6:= @a2R
 exact go2
def cO (e:Int) (d:Ext) (b:(List (List Ext))) (m:Source):Option ((List Ext)×Ext×Int×Source):=
 (Loop (bH e b (b.length:Int) 0 0) (([]:List Ext),0,m.Script,m.At,m.State,m.Count,d.A,d.B)).bind (alt (fun c=>
 some (([]:List Ext),(Ext.mk 0 0),c.2.1,(Source.mk c.2.2.1 c.2.2.2.1 c.2.2.2.2.1 c.2.2.2.2.2.1))) (fun a=>
 some (a.1,(Ext.mk a.2.2.2.2.2.2.2.1 a.2.2.2.2.2.2.2.2),0,(Source.mk a.2.2.2.1 a.2.2.2.2.1 a.2.2.2.2.2.1 a.2.2.2.2.2.2.1))))
theorem wj {c a b m r} (h:cO c a b m=some r):Call tab ow 219 [.ptr 0 0 0 1,I c,.agg [I a.A,I a.B],sl (eL eExt) b,.fn 298 []] [⟨4,true,[[sl eExt m.Script,I m.At,S m.State,I m.Count]]⟩]=some (.tup [sl eExt r.1,.agg [I r.2.1.A,I r.2.1.B],I r.2.2.1],[⟨4,true,[[sl eExt r.2.2.2.Script,I r.2.2.2.At,S r.2.2.2.State,I r.2.2.2.Count]]⟩]):=by
 rw [aj (af:=fY) rfl]
 unfold cO at h
 simp only [fY,ki]
 have d1:= @sV
 exact go2
end
def qH (l t:List Ext) (n c r:Int):Int×Int×Int->Option ((Int×Int×Int)⊕((Int×Bool×Int×Int)))
 | (a,o,m)=>
   br (decide (a<n)) (
   (atL t a).bind fun x=>
   (atL l a).bind fun p=>
   (dc x p).bind fun k=>
   (O8).bind fun i=>
   (iv i x).bind fun d=>
   (O8).bind fun j=>
   (atL l a).bind fun q=>
   (iv j q).bind fun f=>
   (dc d f).bind fun h=>
   (fP k h).bind fun e=>
   (dc (Ext.mk o m) e).bind fun b=>
   some (.inl ((wrap .i64 (a+1)),b.A,b.B))) (
   some (.inr (a,decide (a<n),o,m)))
abbrev K0 (c a b d:Int):List (Nat×Blk):=[(1000,⟨2,true,[[I c,I a]]⟩),(2001,⟨2,true,[[I b,I d]]⟩)]
theorem a6c {a t d c b}:LX tab ow (.close [5003,6006,6007,6009,6010,6015,6016,6017,6018]) Sp (qH a t d c b) (fun s=>⟨[(1,sl eExt a),(4,.ptr 1000 0 0 1),(5,.ptr 2001 0 0 1),(9,sl eExt t),(10,I d),(11,I s.1)],K0 c b s.2.1 s.2.2⟩) (fun e=>(.exit 0,⟨[(1,sl eExt a),(4,.ptr 1000 0 0 1),(5,.ptr 2001 0 0 1),(9,sl eExt t),(10,I d),(11,I e.1),(12,B e.2.1)],K0 c b e.2.2.1 e.2.2.2⟩)):=by
 refine lrX (fun s o h=> ?_)
 obtain ⟨_,_,_⟩:=s
 simp only [qH] at h
 simp only [K0,Sp,Rl]
 have d1:= @eY
 have d2:= @Pj
 have d3:= @mO
 have d4:= @io
 exact go2
def JZ (a b:List Ext):Option Ext:=
 (O8).bind fun d=>
 (Loop (qH b a (a.length:Int) 0 0) (0,d.A,d.B)).bind fun c=>
 some (Ext.mk c.2.2.1 c.2.2.2)
theorem a0a {a b r} (h:JZ a b=some r):Call tab ow 222 [sl eExt a,sl eExt b] []=some (.agg [I r.A,I r.B],[]):=by
 rw [aj (af:=K8) rfl]
 unfold JZ at h
 simp only [K8,Q4]
 have d1:= @Pj
 have d2:= @a6c
 exact go2
def yo (s:bj) (a:List Int) (b:List Ext):Option Ext:=
 (mE s a ([]:List Int)).bind fun h=>
 (eX s).bind fun f=>
 (l6 h 0 f).bind fun y=>
 (Ri y).bind fun d=>
 (sY b).bind fun c=>
 (KP d c).bind fun e=>
 some e
theorem Yd {s a b r} (h:yo s a b=some r):Call tab ow 301 [.agg [I s.Rows,I s.Cols,I s.Publics,sl aA s.A,sl aA s.B,sl aA s.C],sl eI a,sl eExt b] []=some (.agg [I r.A,I r.B],[]):=by
 rw [aj (af:=wR) rfl]
 unfold yo at h
 simp only [wR,LQ]
 have d1:= @Kw
 have d2:= @mM
 have d3:= @b3v
 have d4:= @GF
 have d5:= @a7R
 exact go2
def lk (k m:Int) (a:Opening) (b:Source):Option (Int×Opening×Source):=
 br (decide (k<(wrap .i64 (m-1)))) (
 (atL a.Roots k).bind fun x=>
 br (cP x.length 1) (
 (fO x b).bind fun c=>
 some (m,a,c)) none) (
 some (m,a,b))
theorem JD {k m a b r} (h:lk k m a b=some r):Call tab ow 220 [I k,.ptr 0 0 0 1,.ptr 1 0 0 1,.ptr 2 0 0 1] [⟨1,true,[[I m]]⟩,⟨1,true,[[.ptr 3 0 0 1]]⟩,⟨6,true,[[sl (eL eExt) a.Rounds,sl eS a.Roots,I a.Last.A,I a.Last.B,I a.Nonce,sl eQuery a.Queries]]⟩,⟨4,true,[[sl eExt b.Script,I b.At,S b.State,I b.Count]]⟩]=some (.tup [],[⟨1,true,[[I r.1]]⟩,⟨1,true,[[.ptr 3 0 0 1]]⟩,⟨6,true,[[sl (eL eExt) r.2.1.Rounds,sl eS r.2.1.Roots,I r.2.1.Last.A,I r.2.1.Last.B,I r.2.1.Nonce,sl eQuery r.2.1.Queries]]⟩,⟨4,true,[[sl eExt r.2.2.Script,I r.2.2.At,S r.2.2.State,I r.2.2.Count]]⟩]):=by
 rw [aj (af:=m1) rfl]
 unfold lk at h
 simp only [m1,yH]
 have d1:= @nj
 exact go2
section
@[local go_sem] theorem Ho:mkR 2000 []=rws eExt []:=rfl
@[local go_sem] theorem HA:mkR 12005 []=rws eExt []:=rfl
def bn (i:Int) (t:List (List Ext)) (y c14 z:Int):(List Ext)×Int×(List Ext)×Int×(List UInt8)×Int×Int×(List (List Ext))×(List (List UInt8))×Int×Int×Int×(List Query)×Int×Int->Option (((List Ext)×Int×(List Ext)×Int×(List UInt8)×Int×Int×(List (List Ext))×(List (List UInt8))×Int×Int×Int×(List Query)×Int×Int)⊕(((List Ext)×Int×(List Ext)×Int×(List UInt8)×Int×Int×(List (List Ext))×(List (List UInt8))×Int×Int×Int×(List Query)×Int×Int)⊕((List Ext)×Int×Bool×(List Ext)×Int×(List UInt8)×Int×Int×(List (List Ext))×(List (List UInt8))×Int×Int×Int×(List Query)×Int×Int)))
 | (l,j,c,k,q,p,n,o,r,s,m,b,e,d,f)=>
   br (decide (j<y)) (
   (atL t j).bind fun x=>
   (qQ i).bind fun r_=>
   br ((x.length:Int) !=(wrap .i64 (r_+1))) (
   some (.inr (.inl (l,18,c,k,q,p,n,o,r,s,m,b,e,d,f)))) (
   (atL x 0).bind fun x2=>
   (atL x 1).bind fun x3=>
   (fP x2 x3).bind fun v=>
   br (v.A==d) (
   br (v.B==f) (
   (cZ x (Source.mk c k q p)).bind fun w=>
   (je w).bind fun h=>
   (Bm x h.1).bind fun u=>
   br (cP ((l++([h.1]:List Ext)).length) 16) (
   (lk j n (Opening.mk o r (Ext.mk s m) b e) h.2).bind fun a=>
   some (.inl ((l++([h.1]:List Ext)),(wrap .i64 (j+1)),a.2.2.Script,a.2.2.At,a.2.2.State,a.2.2.Count,a.1,a.2.1.Rounds,a.2.1.Roots,a.2.1.Last.A,a.2.1.Last.B,a.2.1.Nonce,a.2.1.Queries,u.A,u.B))) none) (
   some (.inr (.inl (l,10,c,k,q,p,n,o,r,s,m,b,e,d,f))))) (
   some (.inr (.inl (l,10,c,k,q,p,n,o,r,s,m,b,e,d,f)))))) (
   some (.inr (.inr (l,j,decide (j<y),c,k,q,p,n,o,r,s,m,b,e,d,f))))
abbrev fe (b h:Int) (l c:List Ext) (i:Int) (p:List UInt8) (j k:Int) (o:List (List Ext)) (q:List (List UInt8)) (m n d:Int) (e:List Query) (a f:Int):List (Nat×Blk):=[(0,⟨4,true,[[sl eExt c,I i,S p,I j]]⟩),(1,⟨1,true,[[I k]]⟩),(2,⟨1,true,[[.ptr 0 0 0 1]]⟩),(3,⟨6,true,[[sl (eL eExt) o,sl eS q,I m,I n,I d,sl eQuery e]]⟩),(1000,⟨2,true,[[I a,I f]]⟩),(1002,⟨2,true,[[I b,I h]]⟩),(2000,⟨2,false,rws eExt l⟩)]
theorem oP {a t d b c}:LX tab ow (.close [6003,8006,10002,11001,11002,12002,12005,12006,13002]) j6 (bn a t d b c) (fun s=>⟨[(0,.ptr 0 0 0 1),(1,I a),(4,.fn 220 [.ptr 1 0 0 1,.ptr 2 0 0 1,.ptr 3 0 0 1]),(7,.ptr 1000 0 0 1),(11,.ptr 1002 0 0 1),(13,.sl 2000 0 s.1.length),(18,sl (eL eExt) t),(19,I d),(20,I s.2.1)],fe b c s.1 s.2.2.1 s.2.2.2.1 s.2.2.2.2.1 s.2.2.2.2.2.1 s.2.2.2.2.2.2.1 s.2.2.2.2.2.2.2.1 s.2.2.2.2.2.2.2.2.1 s.2.2.2.2.2.2.2.2.2.1 s.2.2.2.2.2.2.2.2.2.2.1 s.2.2.2.2.2.2.2.2.2.2.2.1 s.2.2.2.2.2.2.2.2.2.2.2.2.1 s.2.2.2.2.2.2.2.2.2.2.2.2.2.1 s.2.2.2.2.2.2.2.2.2.2.2.2.2.2⟩) (alt (fun e=>((.ret,⟨[(10,.lit (.slice none 0 0)),(11,.ptr 1002 0 0 1),(12,I e.2.1)],[(0,⟨4,true,[[sl eExt e.2.2.1,I e.2.2.2.1,S e.2.2.2.2.1,I e.2.2.2.2.2.1]]⟩),(1,⟨1,true,[[I e.2.2.2.2.2.2.1]]⟩),(2,⟨1,true,[[.ptr 0 0 0 1]]⟩),(3,⟨6,true,[[sl (eL eExt) e.2.2.2.2.2.2.2.1,sl eS e.2.2.2.2.2.2.2.2.1,I e.2.2.2.2.2.2.2.2.2.1,I e.2.2.2.2.2.2.2.2.2.2.1,I e.2.2.2.2.2.2.2.2.2.2.2.1,sl eQuery e.2.2.2.2.2.2.2.2.2.2.2.2.1]]⟩),(1000,⟨2,true,[[I e.2.2.2.2.2.2.2.2.2.2.2.2.2.1,I e.2.2.2.2.2.2.2.2.2.2.2.2.2.2]]⟩),(1002,⟨2,true,[[I 0,I 0]]⟩),(2000,⟨2,false,rws eExt e.1⟩)]⟩):bR×St)) (fun e=>(.exit 0,⟨[(0,.ptr 0 0 0 1),(1,I a),(4,.fn 220 [.ptr 1 0 0 1,.ptr 2 0 0 1,.ptr 3 0 0 1]),(7,.ptr 1000 0 0 1),(11,.ptr 1002 0 0 1),(13,.sl 2000 0 e.1.length),(18,sl (eL eExt) t),(19,I d),(20,I e.2.1),(21,B e.2.2.1)],fe b c e.1 e.2.2.2.1 e.2.2.2.2.1 e.2.2.2.2.2.1 e.2.2.2.2.2.2.1 e.2.2.2.2.2.2.2.1 e.2.2.2.2.2.2.2.2.1 e.2.2.2.2.2.2.2.2.2.1 e.2.2.2.2.2.2.2.2.2.2.1 e.2.2.2.2.2.2.2.2.2.2.2.1 e.2.2.2.2.2.2.2.2.2.2.2.2.1 e.2.2.2.2.2.2.2.2.2.2.2.2.2.1 e.2.2.2.2.2.2.2.2.2.2.2.2.2.2.1 e.2.2.2.2.2.2.2.2.2.2.2.2.2.2.2⟩))):=by
 refine lrX (fun s o h=> ?_)
 obtain ⟨_,_,_,_,_,_,_,_,_,_,_,_,_,_,_⟩:=s
 simp only [bn] at h
 simp only [fe,j6,mh]
 have d1:= @Lg
 have d2:= @io
 have d3:= @jL
 have d4:= @wq
 have d5:= @Qk
 have d6:= @JD
 exact go2
def e5 (f:Int) (d:Ext) (c:(List (List Ext))) (m:Source) (h:Int) (e:Opening):Option ((List Ext)×Ext×Int×Source×Int×Opening):=
 (Loop (bn f c (c.length:Int) 0 0) (([]:List Ext),0,m.Script,m.At,m.State,m.Count,h,e.Rounds,e.Roots,e.Last.A,e.Last.B,e.Nonce,e.Queries,d.A,d.B)).bind (alt (fun b=>
 some (([]:List Ext),(Ext.mk 0 0),b.2.1,(Source.mk b.2.2.1 b.2.2.2.1 b.2.2.2.2.1 b.2.2.2.2.2.1),b.2.2.2.2.2.2.1,(Opening.mk b.2.2.2.2.2.2.2.1 b.2.2.2.2.2.2.2.2.1 (Ext.mk b.2.2.2.2.2.2.2.2.2.1 b.2.2.2.2.2.2.2.2.2.2.1) b.2.2.2.2.2.2.2.2.2.2.2.1 b.2.2.2.2.2.2.2.2.2.2.2.2.1))) (fun a=>
 some (a.1,(Ext.mk a.2.2.2.2.2.2.2.2.2.2.2.2.2.2.1 a.2.2.2.2.2.2.2.2.2.2.2.2.2.2.2),0,(Source.mk a.2.2.2.1 a.2.2.2.2.1 a.2.2.2.2.2.1 a.2.2.2.2.2.2.1),a.2.2.2.2.2.2.2.1,(Opening.mk a.2.2.2.2.2.2.2.2.1 a.2.2.2.2.2.2.2.2.2.1 (Ext.mk a.2.2.2.2.2.2.2.2.2.2.1 a.2.2.2.2.2.2.2.2.2.2.2.1) a.2.2.2.2.2.2.2.2.2.2.2.2.1 a.2.2.2.2.2.2.2.2.2.2.2.2.2.1))))
theorem pw {c a b m e d r} (h:e5 c a b m e d=some r):Call tab ow 219 [.ptr 0 0 0 1,I c,.agg [I a.A,I a.B],sl (eL eExt) b,.fn 220 [.ptr 1 0 0 1,.ptr 2 0 0 1,.ptr 3 0 0 1]] [⟨4,true,[[sl eExt m.Script,I m.At,S m.State,I m.Count]]⟩,⟨1,true,[[I e]]⟩,⟨1,true,[[.ptr 0 0 0 1]]⟩,⟨6,true,[[sl (eL eExt) d.Rounds,sl eS d.Roots,I d.Last.A,I d.Last.B,I d.Nonce,sl eQuery d.Queries]]⟩]=some (.tup [sl eExt r.1,.agg [I r.2.1.A,I r.2.1.B],I r.2.2.1],[⟨4,true,[[sl eExt r.2.2.2.1.Script,I r.2.2.2.1.At,S r.2.2.2.1.State,I r.2.2.2.1.Count]]⟩,⟨1,true,[[I r.2.2.2.2.1]]⟩,⟨1,true,[[.ptr 0 0 0 1]]⟩,⟨6,true,[[sl (eL eExt) r.2.2.2.2.2.Rounds,sl eS r.2.2.2.2.2.Roots,I r.2.2.2.2.2.Last.A,I r.2.2.2.2.2.Last.B,I r.2.2.2.2.2.Nonce,sl eQuery r.2.2.2.2.2.Queries]]⟩]):=by
 rw [aj (af:=fY) rfl]
 unfold e5 at h
 simp only [fY,ki]
 have d1:= @oP
 exact go2
end
def BU (a:List UInt8):Option Bool:=
 (vV a).bind fun b=>
 some (!b)
theorem a27 {a r} (h:BU a=some r):Call tab ow 370 [S a] []=some (B r,[]):=by
 rw [aj (af:=A8) rfl]
 unfold BU at h
 simp only [A8,Nz]
 have d1:= @CR
 exact go2
def cU (c:List (List UInt8)) (t:Int):Int->Option ((Int)⊕(Int⊕(Int×Bool)))
 |a=>
  br (decide (a<t)) (
  (atL c a).bind fun x=>
  (BU x).bind fun b=>
  br b (
  some (.inr (.inl a))) (
  some (.inl (wrap .i64 (a+1))))) (
  some (.inr (.inr (a,decide (a<t)))))
theorem lR {a t}:LX tab ow (.close [5005]) dO (cU a t) (fun s=>⟨[(0,sl eS a),(1,.fn 370 []),(7,I t),(8,I s)],[]⟩) (alt (fun e=>((.ret,⟨[(4,I e)],[]⟩):bR×St)) (fun e=>(.exit 0,⟨[(0,sl eS a),(1,.fn 370 []),(7,I t),(8,I e.1),(9,B e.2)],[]⟩))):=by
 refine lrX (fun s o h=> ?_)
 simp only [cU] at h
 simp only [dO,fG]
 have d1:= @a27
 exact go2
def di (s:(List (List UInt8))):Option Int:=
 (Loop (cU s (s.length:Int)) 0).bind (alt (fun a=>
 some a) (fun b=>
 some (-1:Int)))
theorem mL {s r} (h:di s=some r):Call tab ow 333 [sl eS s,.fn 370 []] []=some (I r,[]):=by
 rw [aj (af:=cN) rfl]
 unfold di at h
 simp only [cN,e6]
 have d1:= @lR
 exact go2
def cw (s:(List (List UInt8))):Option Bool:=
 (di s).bind fun a=>
 some (decide (a>=0))
theorem l7 {s r} (h:cw s=some r):Call tab ow 238 [sl eS s,.fn 370 []] []=some (B r,[]):=by
 rw [aj (af:=cx) rfl]
 unfold cw at h
 simp only [cx,fq]
 have d1:= @mL
 exact go2
section
@[local go_sem] theorem c2t:mkR 2002 []=rws eS []:=rfl
@[local go_sem] theorem c5U:mkR 9004 []=rws eS []:=rfl
def nD (h:Int) (t:List (List UInt8)) (e:Int):(List (List UInt8))×Int->Option (((List (List UInt8))×Int)⊕(((List (List UInt8))×Int×Bool)))
 | (l,a)=>
   br (decide (a<e)) (
   (atL t a).bind fun x=>
   br (decide (0<=a)) (
   br (decide (a.toNat<l.length)) (
   (l[a.toNat]?).bind fun f=>
   (Bj f).bind fun d=>
   br (decide (0<=a)) (
   br ((cM .i64 (bW .i64 h a) 1)==1) (
   (tq x d).bind fun c=>
   br (cP ((l++([c]:List (List UInt8))).length) 16) (
   some (.inl ((l++([c]:List (List UInt8))),(wrap .i64 (a+1))))) none) (
   (tq d x).bind fun b=>
   br (cP ((l++([b]:List (List UInt8))).length) 16) (
   some (.inl ((l++([b]:List (List UInt8))),(wrap .i64 (a+1))))) none)) none) none) none) (
   some (.inr (l,a,decide (a<e))))
theorem a0w {b t a}:LX tab ow (.close [6004,9003,9004,9005]) NC (nD b t a) (fun s=>⟨[(0,I b),(7,.sl 2002 0 s.1.length),(14,sl eS t),(15,I a),(16,I s.2)],[(2002,⟨1,false,rws eS s.1⟩)]⟩) (fun e=>(.exit 0,⟨[(0,I b),(7,.sl 2002 0 e.1.length),(14,sl eS t),(15,I a),(16,I e.2.1),(17,B e.2.2)],[(2002,⟨1,false,rws eS e.1⟩)]⟩)):=by
 refine lrX (fun s o h=> ?_)
 obtain ⟨_,_⟩:=s
 simp only [nD] at h
 simp only [NC,O7]
 have d1:= @T9
 have d2:= @X4
 exact go2
def KV (i:Int) (b:List UInt8) (a:(List (List UInt8))):Option ((List (List UInt8))):=
 (yW b).bind fun d=>
 (Loop (nD i a (a.length:Int)) (([d]:List (List UInt8)),0)).bind fun c=>
 some c.1
theorem a9M {i b a r} (h:KV i b a=some r):Call tab ow 371 [I i,S b,sl eS a] []=some (sl eS r,[]):=by
 rw [aj (af:=H3) rfl]
 unfold KV at h
 simp only [H3,MP]
 have d1:= @YW
 have d2:= @a0w
 exact go2
end
def H6 (c:List UInt8) (n i:Int) (b:List UInt8) (a:(List (List UInt8))):Option Bool:=
 br (decide ((b.length:Int)>64)) (
 some false) (
 (Kp n).bind fun h=>
 br ((a.length:Int) !=h) (
 some false) (
 (cw a).bind fun f=>
 br f (
 some false) (
 (KV i b a).bind fun d=>
 (atL d (wrap .i64 ((d.length:Int)-1))).bind fun x=>
 (Bj x).bind fun e=>
 some (e==c))))
theorem b0y {a n i b c r} (h:H6 a n i b c=some r):Call tab ow 327 [S a,I n,I i,S b,sl eS c] []=some (B r,[]):=by
 rw [aj (af:=GW) rfl]
 unfold H6 at h
 simp only [GW,VE]
 have d1:= @Wb
 have d2:= @l7
 have d3:= @a9M
 have d4:= @T9
 exact go2
section
@[local go_sem] theorem b1j:mkR 8006 []=rws eExt []:=rfl
def eZ (t:List Ext) (f:Int) (u:List (List UInt8)) (o:Int) (c:List (List Ext)) (c2:List (List UInt8)) (c3 c4 c5:Int) (c6:List Query) (p:List Ext) (y:List (List (List UInt8))):Int×Int×Int×Int->Option ((Int×Int×Int×Int)⊕((Int×Int×Int×Int×Int×Int)⊕(Int×Int×Int×Int×Int×Int×Int×Int)⊕(Int×Int×Bool×Int×Int)))
 | (h,a,i,e)=>
   br (decide (a<o)) (
   (atL u a).bind fun x=>
   br (decide (0<=a)) (
   br (decide ((wrap .i64 ((bW .i64 f a).tdiv 2))≠0)) (
   (atL p (wrap .i64 (2*a))).bind fun d=>
   (atL p (wrap .i64 ((wrap .i64 (2*a))+1))).bind fun b=>
   (tl ([d,b]:List Ext)).bind fun s=>
   (atL y a).bind fun w=>
   (H6 x (wrap .i64 ((bW .i64 f a).tdiv 2)) (h.tmod (wrap .i64 ((bW .i64 f a).tdiv 2))) s w).bind fun n=>
   br (!n) (
   some (.inr (.inl (i,e,d.A,d.B,b.A,b.B)))) (
   br (decide (h>=(wrap .i64 ((bW .i64 f a).tdiv 2)))) (
   br (decide (a>0)) (
   br (b.A==i) (
   br (b.B==e) (
   (atL t a).bind fun v=>
   (o4 (bW .i64 f a) (h.tmod (wrap .i64 ((bW .i64 f a).tdiv 2))) d b v).bind fun j=>
   some (.inl ((h.tmod (wrap .i64 ((bW .i64 f a).tdiv 2))),(wrap .i64 (a+1)),j.A,j.B))) (
   some (.inr (.inr (.inl (i,e,d.A,d.B,b.A,b.B,b.A,b.B)))))) (
   some (.inr (.inr (.inl (i,e,d.A,d.B,b.A,b.B,b.A,b.B)))))) (
   (atL t a).bind fun z=>
   (o4 (bW .i64 f a) (h.tmod (wrap .i64 ((bW .i64 f a).tdiv 2))) d b z).bind fun k=>
   some (.inl ((h.tmod (wrap .i64 ((bW .i64 f a).tdiv 2))),(wrap .i64 (a+1)),k.A,k.B)))) (
   br (decide (a>0)) (
   br (d.A==i) (
   br (d.B==e) (
   (atL t a).bind fun r=>
   (o4 (bW .i64 f a) (h.tmod (wrap .i64 ((bW .i64 f a).tdiv 2))) d b r).bind fun m=>
   some (.inl ((h.tmod (wrap .i64 ((bW .i64 f a).tdiv 2))),(wrap .i64 (a+1)),m.A,m.B))) (
   some (.inr (.inr (.inl (i,e,d.A,d.B,b.A,b.B,d.A,d.B)))))) (
   some (.inr (.inr (.inl (i,e,d.A,d.B,b.A,b.B,d.A,d.B)))))) (
   (atL t a).bind fun q=>
   (o4 (bW .i64 f a) (h.tmod (wrap .i64 ((bW .i64 f a).tdiv 2))) d b q).bind fun l=>
   some (.inl ((h.tmod (wrap .i64 ((bW .i64 f a).tdiv 2))),(wrap .i64 (a+1)),l.A,l.B)))))) none) none) (
   some (.inr (.inr (.inr (h,a,decide (a<o),i,e)))))
abbrev tP (c:List (List Ext)) (b:List (List UInt8)) (j d f:Int) (i:List Query) (k:List Ext) (h:List (List (List UInt8))) (e a:Int):List (Nat×Blk):=[(1000,⟨6,true,[[sl (eL eExt) c,sl eS b,I j,I d,I f,sl eQuery i]]⟩),(1001,⟨2,true,[[sl eExt k,sl (eL eS) h]]⟩),(2001,⟨2,true,[[I e,I a]]⟩)]
theorem Mc {t n m l c a j b d i k f}:LX tab ow (.close [7017,7018,8006,8007,8014,10001,15008]) Cc (eZ t n m l c a j b d i k f) (fun s=>⟨[(1,sl eExt t),(2,I n),(3,I s.1),(10,.ptr 1000 0 0 1),(11,.ptr 1001 0 0 1),(13,.ptr 2001 0 0 1),(22,sl eS m),(23,I l),(24,I s.2.1)],tP c a j b d i k f s.2.2.1 s.2.2.2⟩) (alt (fun e=>((.ret,⟨[(12,I 9)],[(1000,⟨6,true,[[sl (eL eExt) c,sl eS a,I j,I b,I d,sl eQuery i]]⟩),(1001,⟨2,true,[[sl eExt k,sl (eL eS) f]]⟩),(2001,⟨2,true,[[I e.1,I e.2.1]]⟩),(7017,⟨2,true,[[I e.2.2.1,I e.2.2.2.1]]⟩),(7018,⟨2,true,[[I e.2.2.2.2.1,I e.2.2.2.2.2]]⟩),(8006,my)]⟩):bR×St)) (alt (fun e=>((.ret,⟨[(12,I 12)],[(1000,⟨6,true,[[sl (eL eExt) c,sl eS a,I j,I b,I d,sl eQuery i]]⟩),(1001,⟨2,true,[[sl eExt k,sl (eL eS) f]]⟩),(2001,⟨2,true,[[I e.1,I e.2.1]]⟩),(7017,⟨2,true,[[I e.2.2.1,I e.2.2.2.1]]⟩),(7018,⟨2,true,[[I e.2.2.2.2.1,I e.2.2.2.2.2.1]]⟩),(8006,my),(10001,⟨2,true,[[I e.2.2.2.2.2.2.1,I e.2.2.2.2.2.2.2]]⟩)]⟩):bR×St)) (fun e=>(.exit 0,⟨[(1,sl eExt t),(2,I n),(3,I e.1),(10,.ptr 1000 0 0 1),(11,.ptr 1001 0 0 1),(13,.ptr 2001 0 0 1),(22,sl eS m),(23,I l),(24,I e.2.1),(25,B e.2.2.1)],tP c a j b d i k f e.2.2.2.1 e.2.2.2.2⟩)))):=by
 refine lrX (fun s o h=> ?_)
 obtain ⟨_,_,_,_⟩:=s
 simp only [eZ] at h
 simp only [tP,Cc,Ck]
 have d1:= @Lf
 have d2:= @b0y
 have d3:= @YH
 exact go2
def xm (b:(List (List UInt8))) (a:List Ext) (i j:Int) (c:Opening) (e:Query):Option Int:=
 (Loop (eZ a i b (b.length:Int) c.Rounds c.Roots c.Last.A c.Last.B c.Nonce c.Queries e.Pairs e.Paths) (j,0,0,0)).bind (alt (fun h=>
 some 9) (alt (fun f=>
 some 12) (fun d=>
 br (d.2.2.2.1==c.Last.A) (
 br (d.2.2.2.2==c.Last.B) (
 some 0) (
 some 13)) (
 some 13))))
theorem PW {b a e f c d r} (h:xm b a e f c d=some r):Call tab ow 228 [sl eS b,sl eExt a,I e,I f,.agg [sl (eL eExt) c.Rounds,sl eS c.Roots,I c.Last.A,I c.Last.B,I c.Nonce,sl eQuery c.Queries],.agg [sl eExt d.Pairs,sl (eL eS) d.Paths]] []=some (I r,[]):=by
 rw [aj (af:=sD) rfl]
 unfold xm at h
 simp only [sD,yL]
 have d1:= @Mc
 exact go2
end
end
end Go.AI.Fn
