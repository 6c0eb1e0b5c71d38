/- Part. -/
import Derived.Test.YtdnkignjanfikaaGreatFx0
set_option linter.unusedVariables false
set_option linter.unusedSimpArgs false
set_option maxRecDepth 100000
set_option maxHeartbeats 1000000
namespace Go.AI.Fn
noncomputable section
open IntKind (wrap)
section
@[local go_sem] theorem c6t:mkR 2012 []=rws eU8 []:=rfl
def Gc (n:Int):Option (List UInt8):=
 br (cP (([(UInt8.ofInt (bW .i64 n 24)),(UInt8.ofInt (bW .i64 n 16)),(UInt8.ofInt (bW .i64 n 8)),(UInt8.ofInt n)]:List UInt8).length) 1) (
 some ([(UInt8.ofInt (bW .i64 n 24)),(UInt8.ofInt (bW .i64 n 16)),(UInt8.ofInt (bW .i64 n 8)),(UInt8.ofInt n)]:List UInt8)) none
theorem Kg {n r} (h:Gc n=some r):Call tab ow 225 [.lit (.slice none 0 0),I n] []=some (sl eU8 r,[]):=by
 rw [aj (af:=Cc) rfl]
 unfold Gc at h
 simp only [Cc,RH]
 exact go2
end
section
@[local go_sem] theorem a5z:mkR 1007 []=rws eU8 []:=rfl
@[local go_sem] theorem a3Z:mkR 1013 []=rws (eL eU8) []:=rfl
def fN (t:List UInt8) (m:Source):Option Source:=
 br (cP m.State.length 1) (
 (Gc (t.length:Int)).bind fun b=>
 (s3 ([m.State,([(97:UInt8),(98:UInt8),(115:UInt8),(111:UInt8),(114:UInt8),(98:UInt8)]:List UInt8),b,t]:List (List UInt8))).bind fun a=>
 some (Source.mk m.Script m.At a 0)) none
theorem np {t m r} (h:fN t m=some r):Call tab ow 221 [.ptr 0 0 0 1,sl eU8 t] [⟨4,true,[[sl eExt m.Script,I m.At,S m.State,I m.Count]]⟩]=some (.tup [],[⟨4,true,[[sl eExt r.Script,I r.At,S r.State,I r.Count]]⟩]):=by
 rw [aj (af:=nh) rfl]
 unfold fN at h
 simp only [nh,zq]
 have d1:= @Kg
 have d2:= @yB
 exact go2
end
def ir (a b:Ext):Option Ext:=
 (QY a.A b.A).bind fun d=>
 (QY a.B b.B).bind fun c=>
 some (Ext.mk d c)
theorem mU {a b r} (h:ir a b=some r):Call tab ow 198 [.agg [I a.A,I a.B],.agg [I b.A,I b.B]] []=some (.agg [I r.A,I r.B],[]):=by
 rw [aj (af:=tW) rfl]
 unfold ir at h
 simp only [tW,IK]
 have d1:= @a6W
 exact go2
def wa (x:Int):Option Int:=
 br (decide (x>=4294967296)) (
 br (decide ((bW .u64 x 32)>=65536)) (
 br (decide ((bW .u64 (bW .u64 x 32) 16)>=256)) (
 (atL (([0,1,2,2,3,3,3,3,4,4,4,4,4,4,4,4,5,5,5,5,5,5,5,5,5,5,5,5,5,5,5,5,6,6,6,6,6,6,6,6,6,6,6,6,6,6,6,6,6,6,6,6,6,6,6,6,6,6,6,6,6,6,6,6,7,7,7,7,7,7,7,7,7,7,7,7,7,7,7,7,7,7,7,7,7,7,7,7,7,7,7,7,7,7,7,7,7,7,7,7,7,7,7,7,7,7,7,7,7,7,7,7,7,7,7,7,7,7,7,7,7,7,7,7,7,7,7,7,8,8,8,8,8,8,8,8,8,8,8,8,8,8,8,8,8,8,8,8,8,8,8,8,8,8,8,8,8,8,8,8,8,8,8,8,8,8,8,8,8,8,8,8,8,8,8,8,8,8,8,8,8,8,8,8,8,8,8,8,8,8,8,8,8,8,8,8,8,8,8,8,8,8,8,8,8,8,8,8,8,8,8,8,8,8,8,8,8,8,8,8,8,8,8,8,8,8,8,8,8,8,8,8,8,8,8,8,8,8,8,8,8,8,8,8,8,8,8,8,8,8,8,8,8,8,8,8]:List UInt8)) (wrap .u8 (bW .u64 (bW .u64 (bW .u64 x 32) 16) 8))).bind fun c=>
 some (wrap .i64 (56+(wrap .i64 (c.toNat:Int))))) (
 (atL (([0,1,2,2,3,3,3,3,4,4,4,4,4,4,4,4,5,5,5,5,5,5,5,5,5,5,5,5,5,5,5,5,6,6,6,6,6,6,6,6,6,6,6,6,6,6,6,6,6,6,6,6,6,6,6,6,6,6,6,6,6,6,6,6,7,7,7,7,7,7,7,7,7,7,7,7,7,7,7,7,7,7,7,7,7,7,7,7,7,7,7,7,7,7,7,7,7,7,7,7,7,7,7,7,7,7,7,7,7,7,7,7,7,7,7,7,7,7,7,7,7,7,7,7,7,7,7,7,8,8,8,8,8,8,8,8,8,8,8,8,8,8,8,8,8,8,8,8,8,8,8,8,8,8,8,8,8,8,8,8,8,8,8,8,8,8,8,8,8,8,8,8,8,8,8,8,8,8,8,8,8,8,8,8,8,8,8,8,8,8,8,8,8,8,8,8,8,8,8,8,8,8,8,8,8,8,8,8,8,8,8,8,8,8,8,8,8,8,8,8,8,8,8,8,8,8,8,8,8,8,8,8,8,8,8,8,8,8,8,8,8,8,8,8,8,8,8,8,8,8,8,8,8,8,8,8]:List UInt8)) (wrap .u8 (bW .u64 (bW .u64 x 32) 16))).bind fun h=>
 some (wrap .i64 (48+(wrap .i64 (h.toNat:Int)))))) (
 br (decide ((bW .u64 x 32)>=256)) (
 (atL (([0,1,2,2,3,3,3,3,4,4,4,4,4,4,4,4,5,5,5,5,5,5,5,5,5,5,5,5,5,5,5,5,6,6,6,6,6,6,6,6,6,6,6,6,6,6,6,6,6,6,6,6,6,6,6,6,6,6,6,6,6,6,6,6,7,7,7,7,7,7,7,7,7,7,7,7,7,7,7,7,7,7,7,7,7,7,7,7,7,7,7,7,7,7,7,7,7,7,7,7,7,7,7,7,7,7,7,7,7,7,7,7,7,7,7,7,7,7,7,7,7,7,7,7,7,7,7,7,8,8,8,8,8,8,8,8,8,8,8,8,8,8,8,8,8,8,8,8,8,8,8,8,8,8,8,8,8,8,8,8,8,8,8,8,8,8,8,8,8,8,8,8,8,8,8,8,8,8,8,8,8,8,8,8,8,8,8,8,8,8,8,8,8,8,8,8,8,8,8,8,8,8,8,8,8,8,8,8,8,8,8,8,8,8,8,8,8,8,8,8,8,8,8,8,8,8,8,8,8,8,8,8,8,8,8,8,8,8,8,8,8,8,8,8,8,8,8,8,8,8,8,8,8,8,8,8]:List UInt8)) (wrap .u8 (bW .u64 (bW .u64 x 32) 8))).bind fun i=>
 some (wrap .i64 (40+(wrap .i64 (i.toNat:Int))))) (
 (atL (([0,1,2,2,3,3,3,3,4,4,4,4,4,4,4,4,5,5,5,5,5,5,5,5,5,5,5,5,5,5,5,5,6,6,6,6,6,6,6,6,6,6,6,6,6,6,6,6,6,6,6,6,6,6,6,6,6,6,6,6,6,6,6,6,7,7,7,7,7,7,7,7,7,7,7,7,7,7,7,7,7,7,7,7,7,7,7,7,7,7,7,7,7,7,7,7,7,7,7,7,7,7,7,7,7,7,7,7,7,7,7,7,7,7,7,7,7,7,7,7,7,7,7,7,7,7,7,7,8,8,8,8,8,8,8,8,8,8,8,8,8,8,8,8,8,8,8,8,8,8,8,8,8,8,8,8,8,8,8,8,8,8,8,8,8,8,8,8,8,8,8,8,8,8,8,8,8,8,8,8,8,8,8,8,8,8,8,8,8,8,8,8,8,8,8,8,8,8,8,8,8,8,8,8,8,8,8,8,8,8,8,8,8,8,8,8,8,8,8,8,8,8,8,8,8,8,8,8,8,8,8,8,8,8,8,8,8,8,8,8,8,8,8,8,8,8,8,8,8,8,8,8,8,8,8,8]:List UInt8)) (wrap .u8 (bW .u64 x 32))).bind fun b=>
 some (wrap .i64 (32+(wrap .i64 (b.toNat:Int))))))) (
 br (decide (x>=65536)) (
 br (decide ((bW .u64 x 16)>=256)) (
 (atL (([0,1,2,2,3,3,3,3,4,4,4,4,4,4,4,4,5,5,5,5,5,5,5,5,5,5,5,5,5,5,5,5,6,6,6,6,6,6,6,6,6,6,6,6,6,6,6,6,6,6,6,6,6,6,6,6,6,6,6,6,6,6,6,6,7,7,7,7,7,7,7,7,7,7,7,7,7,7,7,7,7,7,7,7,7,7,7,7,7,7,7,7,7,7,7,7,7,7,7,7,7,7,7,7,7,7,7,7,7,7,7,7,7,7,7,7,7,7,7,7,7,7,7,7,7,7,7,7,8,8,8,8,8,8,8,8,8,8,8,8,8,8,8,8,8,8,8,8,8,8,8,8,8,8,8,8,8,8,8,8,8,8,8,8,8,8,8,8,8,8,8,8,8,8,8,8,8,8,8,8,8,8,8,8,8,8,8,8,8,8,8,8,8,8,8,8,8,8,8,8,8,8,8,8,8,8,8,8,8,8,8,8,8,8,8,8,8,8,8,8,8,8,8,8,8,8,8,8,8,8,8,8,8,8,8,8,8,8,8,8,8,8,8,8,8,8,8,8,8,8,8,8,8,8,8,8]:List UInt8)) (wrap .u8 (bW .u64 (bW .u64 x 16) 8))).bind fun f=>
 some (wrap .i64 (24+(wrap .i64 (f.toNat:Int))))) (
 (atL (([0,1,2,2,3,3,3,3,4,4,4,4,4,4,4,4,5,5,5,5,5,5,5,5,5,5,5,5,5,5,5,5,6,6,6,6,6,6,6,6,6,6,6,6,6,6,6,6,6,6,6,6,6,6,6,6,6,6,6,6,6,6,6,6,7,7,7,7,7,7,7,7,7,7,7,7,7,7,7,7,7,7,7,7,7,7,7,7,7,7,7,7,7,7,7,7,7,7,7,7,7,7,7,7,7,7,7,7,7,7,7,7,7,7,7,7,7,7,7,7,7,7,7,7,7,7,7,7,8,8,8,8,8,8,8,8,8,8,8,8,8,8,8,8,8,8,8,8,8,8,8,8,8,8,8,8,8,8,8,8,8,8,8,8,8,8,8,8,8,8,8,8,8,8,8,8,8,8,8,8,8,8,8,8,8,8,8,8,8,8,8,8,8,8,8,8,8,8,8,8,8,8,8,8,8,8,8,8,8,8,8,8,8,8,8,8,8,8,8,8,8,8,8,8,8,8,8,8,8,8,8,8,8,8,8,8,8,8,8,8,8,8,8,8,8,8,8,8,8,8,8,8,8,8,8,8]:List UInt8)) (wrap .u8 (bW .u64 x 16))).bind fun a=>
 some (wrap .i64 (16+(wrap .i64 (a.toNat:Int)))))) (
 br (decide (x>=256)) (
 (atL (([0,1,2,2,3,3,3,3,4,4,4,4,4,4,4,4,5,5,5,5,5,5,5,5,5,5,5,5,5,5,5,5,6,6,6,6,6,6,6,6,6,6,6,6,6,6,6,6,6,6,6,6,6,6,6,6,6,6,6,6,6,6,6,6,7,7,7,7,7,7,7,7,7,7,7,7,7,7,7,7,7,7,7,7,7,7,7,7,7,7,7,7,7,7,7,7,7,7,7,7,7,7,7,7,7,7,7,7,7,7,7,7,7,7,7,7,7,7,7,7,7,7,7,7,7,7,7,7,8,8,8,8,8,8,8,8,8,8,8,8,8,8,8,8,8,8,8,8,8,8,8,8,8,8,8,8,8,8,8,8,8,8,8,8,8,8,8,8,8,8,8,8,8,8,8,8,8,8,8,8,8,8,8,8,8,8,8,8,8,8,8,8,8,8,8,8,8,8,8,8,8,8,8,8,8,8,8,8,8,8,8,8,8,8,8,8,8,8,8,8,8,8,8,8,8,8,8,8,8,8,8,8,8,8,8,8,8,8,8,8,8,8,8,8,8,8,8,8,8,8,8,8,8,8,8,8]:List UInt8)) (wrap .u8 (bW .u64 x 8))).bind fun e=>
 some (wrap .i64 (8+(wrap .i64 (e.toNat:Int))))) (
 (atL (([0,1,2,2,3,3,3,3,4,4,4,4,4,4,4,4,5,5,5,5,5,5,5,5,5,5,5,5,5,5,5,5,6,6,6,6,6,6,6,6,6,6,6,6,6,6,6,6,6,6,6,6,6,6,6,6,6,6,6,6,6,6,6,6,7,7,7,7,7,7,7,7,7,7,7,7,7,7,7,7,7,7,7,7,7,7,7,7,7,7,7,7,7,7,7,7,7,7,7,7,7,7,7,7,7,7,7,7,7,7,7,7,7,7,7,7,7,7,7,7,7,7,7,7,7,7,7,7,8,8,8,8,8,8,8,8,8,8,8,8,8,8,8,8,8,8,8,8,8,8,8,8,8,8,8,8,8,8,8,8,8,8,8,8,8,8,8,8,8,8,8,8,8,8,8,8,8,8,8,8,8,8,8,8,8,8,8,8,8,8,8,8,8,8,8,8,8,8,8,8,8,8,8,8,8,8,8,8,8,8,8,8,8,8,8,8,8,8,8,8,8,8,8,8,8,8,8,8,8,8,8,8,8,8,8,8,8,8,8,8,8,8,8,8,8,8,8,8,8,8,8,8,8,8,8,8]:List UInt8)) (wrap .u8 x)).bind fun d=>
 some (wrap .i64 (0+(wrap .i64 (d.toNat:Int)))))))
theorem KM {x r} (h:wa x=some r):Call tab ow 386 [.lit (.int .u64 x)] []=some (I r,[]):=by
 rw [aj (af:=nf) rfl]
 unfold wa at h
 simp only [nf,zH]
 exact go2
def B0 (x:Int):Option Int:=
 (wa x).bind fun a=>
 some a
theorem OI {x r} (h:B0 x=some r):Call tab ow 348 [.lit (.int .u64 x)] []=some (I r,[]):=by
 rw [aj (af:=pY) rfl]
 unfold B0 at h
 simp only [pY,DZ]
 have d1:= @KM
 exact go2
def KU (n:Int):Option Int:=
 (B0 (wrap .u64 n)).bind fun a=>
 some (wrap .i64 (a-1))
theorem VT {n r} (h:KU n=some r):Call tab ow 309 [I n] []=some (I r,[]):=by
 rw [aj (af:=Hl) rfl]
 unfold KU at h
 simp only [Hl,Vj]
 have d1:= @OI
 exact go2
def xP:Int×Int×Int->Option ((Int×Int×Int)⊕((Int×Int×Int×Bool)))
 | (c,b,a)=>
   br (decide (b>0)) (
   br ((cM .i64 b 1)==1) (
   (yE a c).bind fun f=>
   (yE c c).bind fun e=>
   some (.inl (e,(bW .i64 b 1),f))) (
   (yE c c).bind fun d=>
   some (.inl (d,(bW .i64 b 1),a)))) (
   some (.inr (c,b,a,decide (b>0))))
theorem a9t:LX tab ow (.close [6002,7002]) Wn (xP) (fun s=>⟨[(0,I s.1),(1,I s.2.1),(5,I s.2.2)],[]⟩) (fun e=>(.exit 0,⟨[(0,I e.1),(1,I e.2.1),(5,I e.2.2.1),(7,B e.2.2.2)],[]⟩)):=by
 refine lrX (fun s o h=> ?_)
 obtain ⟨_,_,_⟩:=s
 simp only [xP] at h
 simp only [Wn,W9]
 have d1:= @Pq
 exact go2
def Ss (a n:Int):Option Int:=
 (Loop (xP) (a,n,1)).bind fun b=>
 some b.2.2.1
theorem WH {a n r} (h:Ss a n=some r):Call tab ow 359 [I a,I n] []=some (I r,[]):=by
 rw [aj (af:=Pa) rfl]
 unfold Ss at h
 simp only [Pa,Xy]
 have d1:= @a9t
 exact go2
def PE (k:Int):Option Int:=
 br (decide (0<=(wrap .i64 (24-k)))) (
 (Ss 3 (bC .i64 127 (wrap .i64 (24-k)))).bind fun a=>
 some a) none
theorem b3R {k r} (h:PE k=some r):Call tab ow 308 [I k] []=some (I r,[]):=by
 rw [aj (af:=Km) rfl]
 unfold PE at h
 simp only [Km,a1E]
 have d1:= @WH
 exact go2
def ik (a:Ext) (n:Int):Option Ext:=
 (yE a.A n).bind fun c=>
 (yE a.B n).bind fun b=>
 some (Ext.mk c b)
theorem o2 {a n r} (h:ik a n=some r):Call tab ow 354 [.agg [I a.A,I a.B],I n] []=some (.agg [I r.A,I r.B],[]):=by
 rw [aj (af:=rH) rfl]
 unfold ik at h
 simp only [rH,Gn]
 have d1:= @Pq
 exact go2
def fR (a b:Ext):Option Ext:=
 (Lq a.A b.A).bind fun d=>
 (Lq a.B b.B).bind fun c=>
 some (Ext.mk d c)
theorem ij {a b r} (h:fR a b=some r):Call tab ow 199 [.agg [I a.A,I a.B],.agg [I b.A,I b.B]] []=some (.agg [I r.A,I r.B],[]):=by
 rw [aj (af:=wS) rfl]
 unfold fR at h
 simp only [wS,LL]
 have d1:= @Y9
 exact go2
section
@[local go_sem] theorem b6U:mkR 2000 []=rws eU8 []:=rfl
def kY (t:List Ext) (c:Int):(List UInt8)×Int->Option (((List UInt8)×Int)⊕(((List UInt8)×Int×Bool)))
 | (l,a)=>
   br (decide (a<c)) (
   (atL t a).bind fun x=>
   (l7 x.A l).bind fun d=>
   (l7 x.B d).bind fun b=>
   some (.inl (b,(wrap .i64 (a+1))))) (
   some (.inr (l,a,decide (a<c))))
theorem Sp {t a}:LX tab ow (.close [5002,6003,6006]) GC (kY t a) (fun s=>⟨[(3,.sl 2000 0 s.1.length),(7,sl eExt t),(8,I a),(9,I s.2)],[(2000,⟨1,false,rws eU8 s.1⟩)]⟩) (fun e=>(.exit 0,⟨[(3,.sl 2000 0 e.1.length),(7,sl eExt t),(8,I a),(9,I e.2.1),(10,B e.2.2)],[(2000,⟨1,false,rws eU8 e.1⟩)]⟩)):=by
 refine lrX (fun s o h=> ?_)
 obtain ⟨_,_⟩:=s
 simp only [kY] at h
 simp only [GC,Fj]
 have d1:= @od
 exact go2
def tk (a:List Ext):Option (List UInt8):=
 (Loop (kY a (a.length:Int)) (([]:List UInt8),0)).bind fun b=>
 some b.1
theorem KB {a r} (h:tk a=some r):Call tab ow 175 [sl eExt a] []=some (sl eU8 r,[]):=by
 rw [aj (af:=wR) rfl]
 unfold tk at h
 simp only [wR,DD]
 have d1:= @Sp
 exact go2
end
def yU (a:List UInt8):Option (List UInt8):=
 br (cP ((([0]:List UInt8)).length+a.length) 1) (
 some ((([0]:List UInt8))++a)) none
theorem Zo {a r} (h:yU a=some r):Call tab ow 305 [S a] []=some (S r,[]):=by
 rw [aj (af:=wL) rfl]
 unfold yU at h
 simp only [wL,Kw]
 exact go2
def tR (a b:List UInt8):Option (List UInt8):=
 br (cP ((([1]:List UInt8)).length+a.length) 1) (
 br (cP (((([1]:List UInt8))++a).length+b.length) 1) (
 some (((([1]:List UInt8))++a)++b)) none) none
theorem Zg {a b r} (h:tR a b=some r):Call tab ow 306 [S a,S b] []=some (S r,[]):=by
 rw [aj (af:=wP) rfl]
 unfold tR at h
 simp only [wP,L4]
 exact go2
def mf (t:List UInt8) (b:Int):Int×Int->Option ((Int×Int)⊕((Int×Int×Bool)))
 | (n,a)=>
   br (decide (a<b)) (
   (atL t a).bind fun x=>
   some (.inl ((xz .u64 (bC .u64 n 8) (wrap .u64 (x.toNat:Int))),(wrap .i64 (a+1))))) (
   some (.inr (n,a,decide (a<b))))
theorem YP {t a}:LX tab ow (.close []) K4 (mf t a) (fun s=>⟨[(3,.lit (.int .u64 s.1)),(6,sl eU8 t),(7,I a),(8,I s.2)],[]⟩) (fun e=>(.exit 0,⟨[(3,.lit (.int .u64 e.1)),(6,sl eU8 t),(7,I a),(8,I e.2.1),(9,B e.2.2)],[]⟩)):=by
 refine lrX (fun s o h=> ?_)
 obtain ⟨_,_⟩:=s
 simp only [mf] at h
 simp only [K4,L2]
 exact go2
def BD (b:List UInt8):Option Int:=
 (Loop (mf b (b.length:Int)) (0,0)).bind fun a=>
 some (wrap .i64 (a.1.tmod 2130706433))
theorem a64 {b r} (h:BD b=some r):Call tab ow 368 [sl eU8 b] []=some (I r,[]):=by
 rw [aj (af:=DM) rfl]
 unfold BD at h
 simp only [DM,Jd]
 have d1:= @YP
 exact go2
section
@[local go_sem] theorem a8x:mkR 5005 []=rws eU8 []:=rfl
@[local go_sem] theorem a9K:mkR 5012 []=rws (eL eU8) []:=rfl
def jg (m:Source):Option (Ext×Source):=
 br (decide ((m.Script.length:Int)>0)) (
 br (decide ((m.Script.length:Int)≠0)) (
 (atL m.Script ((wrap .i64 ((wrap .i64 (m.At+1))-1)).tmod (m.Script.length:Int))).bind fun x=>
 some (x,(Source.mk m.Script (wrap .i64 (m.At+1)) m.State m.Count))) none) (
 br (cP m.State.length 1) (
 (Gc m.Count).bind fun e=>
 (s3 ([m.State,([(100:UInt8),(114:UInt8),(97:UInt8),(119:UInt8)]:List UInt8),e]:List (List UInt8))).bind fun a=>
 br (cP a.length 1) (
 (lr a 0 8).bind fun y=>
 (BD y).bind fun b=>
 (lr a 8 16).bind fun d=>
 (BD d).bind fun c=>
 some ((Ext.mk b c),(Source.mk m.Script m.At m.State (wrap .i64 (m.Count+1))))) none) none)
theorem wj {m r} (h:jg m=some r):Call tab ow 325 [.ptr 0 0 0 1] [⟨4,true,[[sl eExt m.Script,I m.At,S m.State,I m.Count]]⟩]=some (.agg [I r.1.A,I r.1.B],[⟨4,true,[[sl eExt r.2.Script,I r.2.At,S r.2.State,I r.2.Count]]⟩]):=by
 rw [aj (af:=qy) rfl]
 unfold jg at h
 simp only [qy,ED]
 have d1:= @Kg
 have d2:= @yB
 have d3:= @a64
 exact go2
end
section
@[local go_sem] theorem a7J:mkR 2000 []=rws eExt []:=rfl
@[local go_sem] theorem a7E:mkR 5003 []=rws eExt []:=rfl
def fS (t:Int):(List Ext)×Int×(List Ext)×Int×(List UInt8)×Int->Option (((List Ext)×Int×(List Ext)×Int×(List UInt8)×Int)⊕(((List Ext)×Int×Bool×(List Ext)×Int×(List UInt8)×Int)))
 | (l,b,c,e,f,d)=>
   br (decide (b<t)) (
   (jg (Source.mk c e f d)).bind fun a=>
   br (cP ((l++([a.1]:List Ext)).length) 16) (
   some (.inl ((l++([a.1]:List Ext)),(wrap .i64 (b+1)),a.2.Script,a.2.At,a.2.State,a.2.Count))) none) (
   some (.inr (l,b,decide (b<t),c,e,f,d)))
abbrev qU (l c:List Ext) (b:Int) (a:List UInt8) (d:Int):List (Nat×Blk):=[(0,⟨4,true,[[sl eExt c,I b,S a,I d]]⟩),(2000,⟨2,false,rws eExt l⟩)]
theorem JO {t}:LX tab ow (.close [5002,5003,5004]) y0 (fS t) (fun s=>⟨[(0,.ptr 0 0 0 1),(5,.sl 2000 0 s.1.length),(7,I t),(8,I s.2.1)],qU s.1 s.2.2.1 s.2.2.2.1 s.2.2.2.2.1 s.2.2.2.2.2⟩) (fun e=>(.exit 0,⟨[(0,.ptr 0 0 0 1),(5,.sl 2000 0 e.1.length),(7,I t),(8,I e.2.1),(9,B e.2.2.1)],qU e.1 e.2.2.2.1 e.2.2.2.2.1 e.2.2.2.2.2.1 e.2.2.2.2.2.2⟩)):=by
 refine lrX (fun s o h=> ?_)
 obtain ⟨_,_,_,_,_,_⟩:=s
 simp only [fS] at h
 simp only [qU,y0,z6]
 have d1:= @wj
 exact go2
def jD (n:Int) (m:Source):Option ((List Ext)×Source):=
 (Loop (fS n) (([]:List Ext),0,m.Script,m.At,m.State,m.Count)).bind fun a=>
 some (a.1,(Source.mk a.2.2.2.1 a.2.2.2.2.1 a.2.2.2.2.2.1 a.2.2.2.2.2.2))
theorem BS {n m r} (h:jD n m=some r):Call tab ow 227 [.ptr 0 0 0 1,I n] [⟨4,true,[[sl eExt m.Script,I m.At,S m.State,I m.Count]]⟩]=some (sl eExt r.1,[⟨4,true,[[sl eExt r.2.Script,I r.2.At,S r.2.State,I r.2.Count]]⟩]):=by
 rw [aj (af:=oH) rfl]
 unfold jD at h
 simp only [oH,tH]
 have d1:= @JO
 exact go2
end
def No:Option Ext:=
 some (Ext.mk 1 0)
theorem Pp {r} (h:No=some r):Call tab ow 201 [] []=some (.agg [I r.A,I r.B],[]):=by
 rw [aj (af:=Pk) rfl]
 unfold No at h
 simp only [Pk,a6E]
 exact go2
def dc (a b:Ext):Option Ext:=
 (yE a.A b.A).bind fun j=>
 (yE a.B b.B).bind fun i=>
 (yE 3 i).bind fun c=>
 (Lq j c).bind fun d=>
 (yE a.A b.B).bind fun f=>
 (yE a.B b.A).bind fun h=>
 (Lq f h).bind fun e=>
 some (Ext.mk d e)
theorem eY {a b r} (h:dc a b=some r):Call tab ow 200 [.agg [I a.A,I a.B],.agg [I b.A,I b.B]] []=some (.agg [I r.A,I r.B],[]):=by
 rw [aj (af:=ud) rfl]
 unfold dc at h
 simp only [ud,IR]
 have d1:= @Pq
 have d2:= @Y9
 exact go2
section
@[local go_sem] theorem b8u:mkR 2001 []=rws eExt []:=rfl
@[local go_sem] theorem b7I:mkR 6000 []=rws eExt []:=rfl
@[local go_sem] theorem b8C:mkR 6001 []=rws eExt []:=rfl
@[local go_sem] theorem b8X:mkR 10006 []=rws eExt []:=rfl
@[local go_sem] theorem b8K:mkR 10012 []=rws eExt []:=rfl
def mW (p:List Ext) (n o:Int) (m:List Ext) (i c j:Int):(List Ext)×(List Ext)×Int->Option (((List Ext)×(List Ext)×Int)⊕(((List Ext)×(List Ext)×Int×Bool)))
 | (l,f,a)=>
   br (decide (a<i)) (
   (atL m a).bind fun k=>
   (No).bind fun h=>
   (ir h (Ext.mk c j)).bind fun e=>
   (dc k e).bind fun b=>
   br (cP ((l++([b]:List Ext)).length) 16) (
   (dc k (Ext.mk c j)).bind fun d=>
   br (cP ((f++([d]:List Ext)).length) 16) (
   some (.inl ((l++([b]:List Ext)),(f++([d]:List Ext)),(wrap .i64 (a+1))))) none) none) (
   some (.inr (l,f,a,decide (a<i))))
abbrev AF (c a:Int) (l b:List Ext):List (Nat×Blk):=[(5002,⟨2,true,[[I c,I a]]⟩),(6000,⟨2,false,rws eExt l⟩),(6001,⟨2,false,rws eExt b⟩)]
theorem Uo {j a b i d c f}:LX tab ow (.close [9002,10002,10004,10005,10006,10007,10011,10012,10013]) Ia (mW j a b i d c f) (fun s=>⟨[(5,.ptr 5002 0 0 1),(6,.sl 6000 0 s.1.length),(7,.sl 6001 0 s.2.1.length),(12,sl eExt j),(13,I a),(14,I b),(20,sl eExt i),(21,I d),(22,I s.2.2)],AF c f s.1 s.2.1⟩) (fun e=>(.exit 2,⟨[(5,.ptr 5002 0 0 1),(6,.sl 6000 0 e.1.length),(7,.sl 6001 0 e.2.1.length),(12,sl eExt j),(13,I a),(14,I b),(20,sl eExt i),(21,I d),(22,I e.2.2.1),(23,B e.2.2.2)],AF c f e.1 e.2.1⟩)):=by
 refine lrX (fun s o h=> ?_)
 obtain ⟨_,_,_⟩:=s
 simp only [mW] at h
 simp only [AF,Ia,HS]
 have d1:= @Pp
 have d2:= @mU
 have d3:= @eY
 exact go2
def mV (t:List Ext) (d:Int):(List Ext)×Int->Option (((List Ext)×Int)⊕(((List Ext)×Int×Bool)))
 | (a,b)=>
   br (decide (b<d)) (
   (atL t b).bind fun x=>
   (Loop (mW t d b a (a.length:Int) x.A x.B) (([]:List Ext),([]:List Ext),0)).bind fun c=>
   br (cP ((c.1++c.2.1).length) 16) (
   some (.inl ((c.1++c.2.1),(wrap .i64 (b+1))))) none) (
   some (.inr (a,b,decide (b<d))))
theorem U3 {t a}:LX tab ow (.close [5002,6000,6001,9002,10002,10004,10005,10006,10007,10011,10012,10013,12002,2001]) Iv (mV t a) (fun s=>⟨[(3,sl eExt s.1),(12,sl eExt t),(13,I a),(14,I s.2)],[]⟩) (fun e=>(.exit 0,⟨[(3,sl eExt e.1),(12,sl eExt t),(13,I a),(14,I e.2.1),(15,B e.2.2)],[]⟩)):=by
 refine lrX (fun s o h=> ?_)
 obtain ⟨_,_⟩:=s
 simp only [mV] at h
 simp only [Iv,Ib]
 have d1:= @Uo
 exact go2
def tj (a:List Ext):Option (List Ext):=
 (No).bind fun c=>
 (Loop (mV a (a.length:Int)) (([c]:List Ext),0)).bind fun b=>
 some b.1
theorem Fg {a r} (h:tj a=some r):Call tab ow 102 [sl eExt a] []=some (sl eExt r,[]):=by
 rw [aj (af:=A0) rfl]
 unfold tj at h
 simp only [A0,zF]
 have d1:= @Pp
 have d2:= @U3
 exact go2
end
def qY (a:Int):Option Int:=
 (jB a 1 2).bind fun b=>
 br (!b) (
 some 0) (
 some (wrap .i64 (a+1)))
theorem KZ {a r} (h:qY a=some r):Call tab ow 324 [I a] []=some (I r,[]):=by
 rw [aj (af:=wG) rfl]
 unfold qY at h
 simp only [wG,LU]
 have d1:= @yV
 exact go2
def Bg (a b f:Ext):Option Ext:=
 (ir b a).bind fun c=>
 (dc f c).bind fun d=>
 (fR a d).bind fun e=>
 some e
theorem a0r {a b c r} (h:Bg a b c=some r):Call tab ow 300 [.agg [I a.A,I a.B],.agg [I b.A,I b.B],.agg [I c.A,I c.B]] []=some (.agg [I r.A,I r.B],[]):=by
 rw [aj (af:=zA) rfl]
 unfold Bg at h
 simp only [zA,NQ]
 have d1:= @mU
 have d2:= @eY
 have d3:= @ij
 exact go2
def xO (a:Int) (v:List Ext):Option Ext:=
 br (a==1) (
 (atL v 0).bind fun x=>
 (atL v 1).bind fun k=>
 (dc x k).bind fun h=>
 some h) (
 (atL v 0).bind fun f=>
 (atL v 1).bind fun i=>
 (atL v 2).bind fun e=>
 (dc i e).bind fun d=>
 (atL v 3).bind fun j=>
 (ir d j).bind fun b=>
 (dc f b).bind fun c=>
 some c)
theorem a0e {a v r} (h:xO a v=some r):Call tab ow 299 [I a,sl eExt v] []=some (.agg [I r.A,I r.B],[]):=by
 rw [aj (af:=zU) rfl]
 unfold xO at h
 simp only [zU,Nv]
 have d1:= @eY
 have d2:= @mU
 exact go2
def da (a:List Ext) (m:Source):Option Source:=
 (tk a).bind fun c=>
 (fN c m).bind fun b=>
 some b
theorem jP {a m r} (h:da a m=some r):Call tab ow 223 [.ptr 0 0 0 1,sl eExt a] [⟨4,true,[[sl eExt m.Script,I m.At,S m.State,I m.Count]]⟩]=some (.tup [],[⟨4,true,[[sl eExt r.Script,I r.At,S r.State,I r.Count]]⟩]):=by
 rw [aj (af:=jO) rfl]
 unfold da at h
 simp only [jO,sL]
 have d1:= @KB
 have d2:= @np
 exact go2
section
@[local go_sem] theorem b1n: ∀k,Bi 2003 k [I (0:Int),I (0:Int)]=rws eExt (List.replicate k (Ext.mk (0:Int) (0:Int))):=fun _=>MD eExt (Ext.mk (0:Int) (0:Int)) _ _
def i8 (a:List Ext) (t v r:List au) (s:Int) (q:List au) (h c w c3:Int) (z c5 u:List au) (i j y k o n:Int):(List Ext)×Int->Option (((List Ext)×Int)⊕(((List Ext)×Int×Bool)))
 | (l,b)=>
   br (decide (b<h)) (
   (atL q b).bind fun x=>
   br (decide (0<=x.Col)) (
   br (decide (x.Col.toNat<l.length)) (
   (l[x.Col.toNat]?).bind fun p=>
   (atL a x.Row).bind fun m=>
   (dc (Ext.mk i j) m).bind fun f=>
   (ik f x.Value).bind fun d=>
   (fR p d).bind fun e=>
   br (decide (0<=x.Col)) (
   br (decide (x.Col.toNat<l.length)) (
   (l[x.Col.toNat]?).bind fun x4=>
   some (.inl ((l.set x.Col.toNat e),(wrap .i64 (b+1))))) none) none) none) none) (
   some (.inr (l,b,decide (b<h))))
abbrev tz (c j m:Int) (f k e:List au) (i h n d a b:Int) (l:List Ext):List (Nat×Blk):=[(1000,⟨6,true,[[I c,I j,I m,sl aA f,sl aA k,sl aA e]]⟩),(1001,⟨6,true,[[I i,I h,I n,I d,I a,I b]]⟩),(2003,⟨2,false,rws eExt l⟩)]
theorem Mb {a t q w x i j c r l m u k n p v d b f}:LX tab ow (.close [8002,9016,9019,9020]) jl (i8 a t q w x i j c r l m u k n p v d b f) (fun s=>⟨[(5,.ptr 1001 0 0 1),(7,.sl 2003 0 s.1.length),(8,sl eExt a),(9,I 0),(20,.agg [sl aA t,sl aA q,sl aA w]),(21,I x),(25,sl aA i),(26,I j),(27,I s.2)],tz c r l m u k n p v d b f s.1⟩) (fun e=>(.exit 2,⟨[(5,.ptr 1001 0 0 1),(7,.sl 2003 0 e.1.length),(8,sl eExt a),(9,I 0),(20,.agg [sl aA t,sl aA q,sl aA w]),(21,I x),(25,sl aA i),(26,I j),(27,I e.2.1),(28,B e.2.2)],tz c r l m u k n p v d b f e.1⟩)):=by
 refine lrX (fun s o h=> ?_)
 obtain ⟨_,_⟩:=s
 simp only [i8] at h
 simp only [tz,jl,oE]
 have d1:= @eY
 have d2:= @o2
 have d3:= @ij
 exact go2
def oo (c:List Ext) (t8 t9 x l:List au) (e u q o:Int) (m n r:List au) (s t j k w v:Int):(List Ext)×Int->Option (((List Ext)×Int)⊕(((List Ext)×Int×Bool)))
 | (d,a)=>
   br (decide (a<e)) (
   (atL l a).bind fun b=>
   br (decide (0<=b.Col)) (
   br (decide (b.Col.toNat<d.length)) (
   (d[b.Col.toNat]?).bind fun y=>
   (atL c b.Row).bind fun p=>
   (dc (Ext.mk j k) p).bind fun i=>
   (ik i b.Value).bind fun h=>
   (fR y h).bind fun f=>
   br (decide (0<=b.Col)) (
   br (decide (b.Col.toNat<d.length)) (
   (d[b.Col.toNat]?).bind fun z=>
   some (.inl ((d.set b.Col.toNat f),(wrap .i64 (a+1))))) none) none) none) none) (
   some (.inr (d,a,decide (a<e))))
abbrev tn (a c f:Int) (d e j:List au) (l m k h b i:Int) (n:List Ext):List (Nat×Blk):=[(1000,⟨6,true,[[I a,I c,I f,sl aA d,sl aA e,sl aA j]]⟩),(1001,⟨6,true,[[I l,I m,I k,I h,I b,I i]]⟩),(2003,⟨2,false,rws eExt n⟩)]
theorem Mz {a w v n u d b f l i k p r t q m c j}:LX tab ow (.close [8002,9016,9019,9020]) jl (oo a w v n u d b f l i k p r t q m c j) (fun s=>⟨[(5,.ptr 1001 0 0 1),(7,.sl 2003 0 s.1.length),(8,sl eExt a),(9,I 1),(20,.agg [sl aA w,sl aA v,sl aA n]),(21,I 1),(25,sl aA u),(26,I d),(27,I s.2)],tn b f l i k p r t q m c j s.1⟩) (fun e=>(.exit 2,⟨[(5,.ptr 1001 0 0 1),(7,.sl 2003 0 e.1.length),(8,sl eExt a),(9,I 1),(20,.agg [sl aA w,sl aA v,sl aA n]),(21,I 1),(25,sl aA u),(26,I d),(27,I e.2.1),(28,B e.2.2)],tn b f l i k p r t q m c j e.1⟩)):=by
 refine lrX (fun s o h=> ?_)
 obtain ⟨_,_⟩:=s
 simp only [oo] at h
 simp only [tn,jl,oE]
 have d1:= @eY
 have d2:= @o2
 have d3:= @ij
 exact go2
def oi (c:List Ext) (o p w m:List au) (e u s v:Int) (c28 r y:List au) (c31 x q t i n:Int):(List Ext)×Int->Option (((List Ext)×Int)⊕(((List Ext)×Int×Bool)))
 | (d,a)=>
   br (decide (a<e)) (
   (atL m a).bind fun b=>
   br (decide (0<=b.Col)) (
   br (decide (b.Col.toNat<d.length)) (
   (d[b.Col.toNat]?).bind fun j=>
   (atL c b.Row).bind fun k=>
   (dc (Ext.mk i n) k).bind fun l=>
   (ik l b.Value).bind fun f=>
   (fR j f).bind fun h=>
   br (decide (0<=b.Col)) (
   br (decide (b.Col.toNat<d.length)) (
   (d[b.Col.toNat]?).bind fun z=>
   some (.inl ((d.set b.Col.toNat h),(wrap .i64 (a+1))))) none) none) none) none) (
   some (.inr (d,a,decide (a<e))))
abbrev tK (f e a:Int) (j m i:List au) (k h l c d b:Int) (n:List Ext):List (Nat×Blk):=[(1000,⟨6,true,[[I f,I e,I a,sl aA j,sl aA m,sl aA i]]⟩),(1001,⟨6,true,[[I k,I h,I l,I c,I d,I b]]⟩),(2003,⟨2,false,rws eExt n⟩)]
theorem MO {a b c t d i n m f r w q u p v k l j}:LX tab ow (.close [8002,9016,9019,9020]) jl (oi a b c t d i n m f r w q u p v k l j) (fun s=>⟨[(5,.ptr 1001 0 0 1),(7,.sl 2003 0 s.1.length),(8,sl eExt a),(9,I 2),(20,.agg [sl aA b,sl aA c,sl aA t]),(21,I 2),(25,sl aA d),(26,I i),(27,I s.2)],tK n m f r w q u p v k l j s.1⟩) (fun e=>(.exit 2,⟨[(5,.ptr 1001 0 0 1),(7,.sl 2003 0 e.1.length),(8,sl eExt a),(9,I 2),(20,.agg [sl aA b,sl aA c,sl aA t]),(21,I 2),(25,sl aA d),(26,I i),(27,I e.2.1),(28,B e.2.2)],tK n m f r w q u p v k l j e.1⟩)):=by
 refine lrX (fun s o h=> ?_)
 obtain ⟨_,_⟩:=s
 simp only [oi] at h
 simp only [tK,jl,oE]
 have d1:= @eY
 have d2:= @o2
 have d3:= @ij
 exact go2
def sA (s:bi) (f:List Ext) (a:(Ext×Ext×Ext)):Option (List Ext):=
 br (decide (0<=s.Cols)) (
 br (zf (bC .i64 1 s.Cols) (bC .i64 1 s.Cols) 16) (
 (tj f).bind fun c=>
 (ft s).bind fun b=>
 (Loop (i8 c b.1 b.2.1 b.2.2 (0:Int) b.1 (b.1.length:Int) s.Rows s.Cols s.Publics s.A s.B s.C a.1.A a.1.B a.2.1.A a.2.1.B a.2.2.A a.2.2.B) ((List.replicate ((bC .i64 (1:Int) s.Cols).toNat) (Ext.mk (0:Int) (0:Int))),(0:Int))).bind fun h=>
 (Loop (oo c b.1 b.2.1 b.2.2 b.2.1 (b.2.1.length:Int) s.Rows s.Cols s.Publics s.A s.B s.C a.1.A a.1.B a.2.1.A a.2.1.B a.2.2.A a.2.2.B) (h.1,0)).bind fun d=>
 (Loop (oi c b.1 b.2.1 b.2.2 b.2.2 (b.2.2.length:Int) s.Rows s.Cols s.Publics s.A s.B s.C a.1.A a.1.B a.2.1.A a.2.1.B a.2.2.A a.2.2.B) (d.1,0)).bind fun e=>
 some e.1) none) none
theorem R1 {s b a r} (h:sA s b a=some r):Call tab ow 293 [.agg [I s.Rows,I s.Cols,I s.Publics,sl aA s.A,sl aA s.B,sl aA s.C],sl eExt b,.agg [I a.1.A,I a.1.B,I a.2.1.A,I a.2.1.B,I a.2.2.A,I a.2.2.B]] []=some (sl eExt r,[]):=by
 rw [aj (af:=rJ) rfl]
 unfold sA at h
 simp+decide only [rJ,s9,go_sem,reduceIte,Nat.reduceAdd,Int.reduceAdd,Int.reduceMul,Int.reduceSub]
 obtain ⟨hb,h⟩:=brg h
 refine JY hb ?_
 obtain ⟨hb,h⟩:=brg h
 refine JY hb ?_
 obtain ⟨r_,h1,h⟩:=bd h
 refine oU (Fg h1) ?_
 simp+decide only [go_sem,reduceIte,Nat.reduceAdd,Int.reduceAdd,Int.reduceMul,Int.reduceSub]
 obtain ⟨r_2,h1,h⟩:=bd h
 refine y5 (pr h1) ?_
 simp+decide only [go_sem,reduceIte,Nat.reduceAdd,Int.reduceAdd,Int.reduceMul,Int.reduceSub]
 refine k8 ?_
 simp+decide only [mkL,go_sem,reduceIte,Nat.reduceAdd,Int.reduceAdd,Int.reduceMul,Int.reduceSub]
 obtain ⟨e_,h1,h⟩:=bd h
 refine JI (lxE Mb h1) ?_
 simp+decide only [go_sem,reduceIte,Nat.reduceAdd,Int.reduceAdd,Int.reduceMul,Int.reduceSub]
 refine k8 ?_
 simp+decide only [mkL,go_sem,reduceIte,Nat.reduceAdd,Int.reduceAdd,Int.reduceMul,Int.reduceSub]
 obtain ⟨e_2,h1,h⟩:=bd h
 refine JI (lxE Mz h1) ?_
 simp+decide only [go_sem,reduceIte,Nat.reduceAdd,Int.reduceAdd,Int.reduceMul,Int.reduceSub]
 refine k8 ?_
 simp+decide only [mkL,go_sem,reduceIte,Nat.reduceAdd,Int.reduceAdd,Int.reduceMul,Int.reduceSub]
 obtain ⟨e_3,h1,h⟩:=bd h
 refine JI (lxE MO h1) ?_
 simp+decide only [go_sem,reduceIte,Nat.reduceAdd,Int.reduceAdd,Int.reduceMul,Int.reduceSub]
 refine k8 ?_
 simp+decide only [mkL,go_sem,reduceIte,Nat.reduceAdd,Int.reduceAdd,Int.reduceMul,Int.reduceSub]
 obtain rfl:=cZ h
 first|rfl| (simp only [bf,go_sem];done)
end
def xK (i t:List Ext) (e c k:Int):Int×Int×Int->Option ((Int×Int×Int)⊕((Int×Bool×Int×Int)))
 | (a,f,d)=>
   br (decide (a<e)) (
   (atL t a).bind fun x=>
   (atL i a).bind fun j=>
   (dc x j).bind fun h=>
   (fR (Ext.mk f d) h).bind fun b=>
   some (.inl ((wrap .i64 (a+1)),b.A,b.B))) (
   some (.inr (a,decide (a<e),f,d)))
abbrev MP (c b a d:Int):List (Nat×Blk):=[(1000,⟨2,true,[[I c,I b]]⟩),(2001,⟨2,true,[[I a,I d]]⟩)]
theorem b0c {a t b c d}:LX tab ow (.close [5003,6006,6007]) W1 (xK a t b c d) (fun s=>⟨[(1,sl eExt a),(4,.ptr 1000 0 0 1),(5,.ptr 2001 0 0 1),(9,sl eExt t),(10,I b),(11,I s.1)],MP c d s.2.1 s.2.2⟩) (fun e=>(.exit 0,⟨[(1,sl eExt a),(4,.ptr 1000 0 0 1),(5,.ptr 2001 0 0 1),(9,sl eExt t),(10,I b),(11,I e.1),(12,B e.2.1)],MP c d e.2.2.1 e.2.2.2⟩)):=by
 refine lrX (fun s o h=> ?_)
 obtain ⟨_,_,_⟩:=s
 simp only [xK] at h
 simp only [MP,W1,Wl]
 have d1:= @eY
 have d2:= @ij
 exact go2
def Lt (a b:List Ext):Option Ext:=
 (Loop (xK b a (a.length:Int) 0 0) (0,0,0)).bind fun c=>
 some (Ext.mk c.2.2.1 c.2.2.2)
theorem a6G {a b r} (h:Lt a b=some r):Call tab ow 101 [sl eExt a,sl eExt b] []=some (.agg [I r.A,I r.B],[]):=by
 rw [aj (af:=Pl) rfl]
 unfold Lt at h
 simp only [Pl,Yw]
 have d1:= @b0c
 exact go2
def tD (a:Int):Option Int:=
 (Ss a 2130706431).bind fun b=>
 some b
theorem NO {a r} (h:tD a=some r):Call tab ow 369 [I a] []=some (I r,[]):=by
 rw [aj (af:=zX) rfl]
 unfold tD at h
 simp only [zX,N2]
 have d1:= @WH
 exact go2
def o5 (n i:Int) (a b r:Ext):Option Ext:=
 (tD 2).bind fun f=>
 (KU n).bind fun j=>
 (PE j).bind fun l=>
 (Ss l i).bind fun p=>
 (fR a b).bind fun q=>
 (ik q f).bind fun o=>
 (ir a b).bind fun m=>
 (dc r m).bind fun k=>
 (tD p).bind fun e=>
 (yE f e).bind fun h=>
 (ik k h).bind fun c=>
 (fR o c).bind fun d=>
 some d
theorem YA {n i a b c r} (h:o5 n i a b c=some r):Call tab ow 328 [I n,I i,.agg [I a.A,I a.B],.agg [I b.A,I b.B],.agg [I c.A,I c.B]] []=some (.agg [I r.A,I r.B],[]):=by
 rw [aj (af:=xC) rfl]
 unfold o5 at h
 simp only [xC,Lp]
 have d1:= @NO
 have d2:= @VT
 have d3:= @b3R
 have d4:= @WH
 have d5:= @ij
 have d6:= @o2
 have d7:= @mU
 have d8:= @eY
 have d9:= @Pq
 exact go2
def oR (t:List UInt8) (b:Int):Int×Int->Option ((Int×Int)⊕((Int×Int×Bool)))
 | (n,a)=>
   br (decide (a<b)) (
   (atL t a).bind fun x=>
   some (.inl ((xz .i64 (bC .i64 n 8) (wrap .i64 (x.toNat:Int))),(wrap .i64 (a+1))))) (
   some (.inr (n,a,decide (a<b))))
theorem ZE {t a}:LX tab ow (.close []) Kl (oR t a) (fun s=>⟨[(3,I s.1),(6,sl eU8 t),(7,I a),(8,I s.2)],[]⟩) (fun e=>(.exit 0,⟨[(3,I e.1),(6,sl eU8 t),(7,I a),(8,I e.2.1),(9,B e.2.2)],[]⟩)):=by
 refine lrX (fun s o h=> ?_)
 obtain ⟨_,_⟩:=s
 simp only [oR] at h
 simp only [Kl,Ko]
 exact go2
def F8 (b:List UInt8):Option Int:=
 (Loop (oR b (b.length:Int)) (0,0)).bind fun a=>
 some a.1
theorem a4Z {b r} (h:F8 b=some r):Call tab ow 297 [sl eU8 b] []=some (I r,[]):=by
 rw [aj (af:=Dp) rfl]
 unfold F8 at h
 simp only [Dp,JR]
 have d1:= @ZE
 exact go2
section
@[local go_sem] theorem a8N:mkR 2003 []=rws eU8 []:=rfl
@[local go_sem] theorem b0M:mkR 2007 []=rws (eL eU8) []:=rfl
def pN (s:Source) (a b:Int):Option Bool:=
 br (cP s.State.length 1) (
 (Gc b).bind fun e=>
 (s3 ([s.State,([(103:UInt8),(114:UInt8),(105:UInt8),(110:UInt8),(100:UInt8)]:List UInt8),e]:List (List UInt8))).bind fun c=>
 br (cP c.length 1) (
 (lr c 0 4).bind fun y=>
 (F8 y).bind fun d=>
 br (decide (0<=(wrap .i64 (32-a)))) (
 some ((bW .i64 d (wrap .i64 (32-a)))==0)) none) none) none
theorem OZ {s b a r} (h:pN s b a=some r):Call tab ow 224 [.agg [sl eExt s.Script,I s.At,S s.State,I s.Count],I b,I a] []=some (B r,[]):=by
 rw [aj (af:=pU) rfl]
 unfold pN at h
 simp only [pU,DY]
 have d1:= @Kg
 have d2:= @yB
 have d3:= @a4Z
 exact go2
end
section
@[local go_sem] theorem c2b:mkR 2000 []=rws eI []:=rfl
@[local go_sem] theorem c29:mkR 6005 []=rws eI []:=rfl
def mc (a:Int) (t:List Ext) (c:Int):(List Int)×Int->Option (((List Int)×Int)⊕(((List Int)×Int×Bool)))
 | (l,b)=>
   br (decide (b<c)) (
   (atL t b).bind fun x=>
   br (decide (a≠0)) (
   br (cP ((l++([(x.A.tmod a)]:List Int)).length) 8) (
   some (.inl ((l++([(x.A.tmod a)]:List Int)),(wrap .i64 (b+1))))) none) none) (
   some (.inr (l,b,decide (b<c))))
theorem ZF {a t b}:LX tab ow (.close [5002,6005,6006]) Lw (mc a t b) (fun s=>⟨[(1,I a),(5,.sl 2000 0 s.1.length),(9,sl eExt t),(10,I b),(11,I s.2)],[(2000,⟨1,false,rws eI s.1⟩)]⟩) (fun e=>(.exit 0,⟨[(1,I a),(5,.sl 2000 0 e.1.length),(9,sl eExt t),(10,I b),(11,I e.2.1),(12,B e.2.2)],[(2000,⟨1,false,rws eI e.1⟩)]⟩)):=by
 refine lrX (fun s o h=> ?_)
 obtain ⟨_,_⟩:=s
 simp only [mc] at h
 simp only [Lw,Kz]
 exact go2
def F3 (a:List Ext) (b:Int):Option (List Int):=
 (Loop (mc b a (a.length:Int)) (([]:List Int),0)).bind fun c=>
 some c.1
theorem a6u {b a r} (h:F3 b a=some r):Call tab ow 226 [sl eExt b,I a] []=some (sl eI r,[]):=by
 rw [aj (af:=CT) rfl]
 unfold F3 at h
 simp only [CT,Jf]
 have d1:= @ZF
 exact go2
end
def fH (x:Int):Option Bool:=
 some (x !=x)
theorem wt {x r} (h:fH x=some r):Call tab ow 387 [I x] []=some (B r,[]):=by
 rw [aj (af:=fO) rfl]
 unfold fH at h
 simp only [fO,mN]
 exact go2
def dl (x y:Int):Option Int:=
 (fH x).bind fun b=>
 (fH y).bind fun a=>
 br b (
 br a (
 some 0) (
 some (-1:Int))) (
 br a (
 some 1) (
 br (decide (x<y)) (
 some (-1:Int)) (
 br (decide (x>y)) (
 some 1) (
 some 0))))
theorem sr {x y r} (h:dl x y=some r):Call tab ow 350 [I x,I y] []=some (I r,[]):=by
 rw [aj (af:=ee) rfl]
 unfold dl at h
 simp only [ee,ko]
 have d1:= @wt
 exact go2
def bN (zero:Int) (t:List Int) (b:Int):Int->Option ((Int)⊕(Int⊕(Int×Bool)))
 |a=>
  br (decide (a<b)) (
  (atL t a).bind fun x=>
  br (x !=zero) (
  some (.inr (.inl x))) (
  some (.inl (wrap .i64 (a+1))))) (
  some (.inr (.inr (a,decide (a<b)))))
theorem ya {zero t a}:LX tab ow (.close []) nR (bN zero t a) (fun s=>⟨[(3,I zero),(6,sl eI t),(7,I a),(8,I s)],[]⟩) (alt (fun e=>((.ret,⟨[(2,I e)],[]⟩):bR×St)) (fun e=>(.exit 0,⟨[(3,I zero),(6,sl eI t),(7,I a),(8,I e.1),(9,B e.2)],[]⟩))):=by
 refine lrX (fun s o h=> ?_)
 simp only [bN] at h
 simp only [nR,o3]
 exact go2
def jv (a:List Int):Option Int:=
 (Loop (bN 0 a (a.length:Int)) 0).bind (alt (fun b=>
 some b) (fun c=>
 some 0))
theorem D1 {a r} (h:jv a=some r):Call tab ow 349 [sl eI a] []=some (I r,[]):=by
 rw [aj (af:=jc) rfl]
 unfold jv at h
 simp only [jc,mo]
 have d1:= @ya
 exact go2
section
@[local go_sem] theorem BF:mkR 2010 []=rws eI []:=rfl
def gp (c f:au):Option Int:=
 (dl c.Row f.Row).bind fun d=>
 (dl c.Col f.Col).bind fun a=>
 (jv ([d,a]:List Int)).bind fun b=>
 some b
theorem wq {a f r} (h:gp a f=some r):Call tab ow 288 [.agg [I a.Row,I a.Col,I a.Value],.agg [I f.Row,I f.Col,I f.Value]] []=some (I r,[]):=by
 rw [aj (af:=fK) rfl]
 unfold gp at h
 simp only [fK,my]
 have d1:= @sr
 have d2:= @D1
 exact go2
end
def nQ (d:List au) (b c:Int) (t:List au) (i:Int):Int->Option ((Int)⊕((Int×Int×Int)⊕(Int×Bool)))
 |a=>
  br (decide (a<i)) (
  (atL t a).bind fun x=>
  (jB x.Row 0 (wrap .i64 (b-1))).bind fun j=>
  br (!j) (
  some (.inr (.inl (x.Row,x.Col,x.Value)))) (
  (jB x.Col 0 (wrap .i64 (c-1))).bind fun h=>
  br (!h) (
  some (.inr (.inl (x.Row,x.Col,x.Value)))) (
  (jB x.Value 1 2130706432).bind fun e=>
  br (!e) (
  some (.inr (.inl (x.Row,x.Col,x.Value)))) (
  br (decide (a>0)) (
  (atL d (wrap .i64 (a-1))).bind fun k=>
  (gp k x).bind fun f=>
  br (decide (f>=0)) (
  some (.inr (.inl (x.Row,x.Col,x.Value)))) (
  some (.inl (wrap .i64 (a+1))))) (
  some (.inl (wrap .i64 (a+1)))))))) (
  some (.inr (.inr (a,decide (a<i)))))
theorem RO {a b c t d}:LX tab ow (.close [4003,5004,5011,5017,5030]) F4 (nQ a b c t d) (fun s=>⟨[(0,sl aA a),(1,I b),(2,I c),(9,sl aA t),(10,I d),(11,I s)],[]⟩) (alt (fun e=>((.ret,⟨[(6,B false)],[(4003,⟨3,true,[[I e.1,I e.2.1,I e.2.2]]⟩)]⟩):bR×St)) (fun e=>(.exit 0,⟨[(0,sl aA a),(1,I b),(2,I c),(9,sl aA t),(10,I d),(11,I e.1),(12,B e.2)],[]⟩))):=by
 refine lrX (fun s o h=> ?_)
 simp only [nQ] at h
 simp only [F4,FQ]
 have d1:= @yV
 have d2:= @wq
 exact go2
def qO (a:List au) (b c:Int):Option Bool:=
 (Loop (nQ a b c a (a.length:Int)) 0).bind (alt (fun d=>
 some false) (fun e=>
 some (decide ((a.length:Int)<=200))))
theorem CU {b a c r} (h:qO b a c=some r):Call tab ow 178 [sl aA b,I a,I c] []=some (B r,[]):=by
 rw [aj (af:=wJ) rfl]
 unfold qO at h
 simp only [wJ,D6]
 have d1:= @RO
 exact go2
def sW (s:bi):Option Bool:=
 (jB s.Rows 1 5).bind fun i=>
 br (!i) (
 some false) (
 (jB s.Cols 2 5).bind fun h=>
 br (!h) (
 some false) (
 (eX s).bind fun b=>
 (jB s.Publics 0 (wrap .i64 (b-1))).bind fun c=>
 br (!c) (
 some false) (
 (ft s).bind fun a=>
 br (decide (0<=s.Rows)) (
 br (decide (0<=s.Cols)) (
 (qO a.1 (bC .i64 1 s.Rows) (bC .i64 1 s.Cols)).bind fun f=>
 br (!f) (
 some false) (
 br (decide (0<=s.Rows)) (
 br (decide (0<=s.Cols)) (
 (qO a.2.1 (bC .i64 1 s.Rows) (bC .i64 1 s.Cols)).bind fun e=>
 br (!e) (
 some false) (
 br (decide (0<=s.Rows)) (
 br (decide (0<=s.Cols)) (
 (qO a.2.2 (bC .i64 1 s.Rows) (bC .i64 1 s.Cols)).bind fun d=>
 br (!d) (
 some false) (
 some true)) none) none)) none) none)) none) none)))
theorem LC {s r} (h:sW s=some r):Call tab ow 86 [.agg [I s.Rows,I s.Cols,I s.Publics,sl aA s.A,sl aA s.B,sl aA s.C]] []=some (B r,[]):=by
 rw [aj (af:=xi) rfl]
 unfold sW at h
 simp+decide only [xi,CA,go_sem,reduceIte,Nat.reduceAdd,Int.reduceAdd,Int.reduceMul,Int.reduceSub]
 obtain ⟨r_,h1,h⟩:=bd h
 refine oU (yV h1) ?_
 simp+decide only [go_sem,reduceIte,Nat.reduceAdd,Int.reduceAdd,Int.reduceMul,Int.reduceSub]
 rcases brc h with ⟨hb,h⟩|⟨hb,h⟩
 ·refine JY hb ?_
  obtain rfl:=cZ h
  first|rfl| (simp only [bf,go_sem];done)
 ·refine b0k hb ?_
  obtain ⟨r_2,h1,h⟩:=bd h
  refine oU (yV h1) ?_
  simp+decide only [go_sem,reduceIte,Nat.reduceAdd,Int.reduceAdd,Int.reduceMul,Int.reduceSub]
  rcases brc h with ⟨hb,h⟩|⟨hb,h⟩
  ·refine JY hb ?_
   obtain rfl:=cZ h
   first|rfl| (simp only [bf,go_sem];done)
  ·refine b0k hb ?_
   obtain ⟨r_3,h1,h⟩:=bd h
   refine oU (mz h1) ?_
   simp+decide only [go_sem,reduceIte,Nat.reduceAdd,Int.reduceAdd,Int.reduceMul,Int.reduceSub]
   obtain ⟨r_4,h1,h⟩:=bd h
   refine oU (yV h1) ?_
   simp+decide only [go_sem,reduceIte,Nat.reduceAdd,Int.reduceAdd,Int.reduceMul,Int.reduceSub]
   rcases brc h with ⟨hb,h⟩|⟨hb,h⟩
   ·refine JY hb ?_
    obtain rfl:=cZ h
    first|rfl| (simp only [bf,go_sem];done)
   ·refine b0k hb ?_
    obtain ⟨r_5,h1,h⟩:=bd h
    refine y5 (pr h1) ?_
    simp+decide only [go_sem,reduceIte,Nat.reduceAdd,Int.reduceAdd,Int.reduceMul,Int.reduceSub]
    refine k8 ?_
    simp+decide only [mkL,go_sem,reduceIte,Nat.reduceAdd,Int.reduceAdd,Int.reduceMul,Int.reduceSub]
    obtain ⟨hb,h⟩:=brg h
    refine JY hb ?_
    obtain ⟨hb,h⟩:=brg h
    refine JY hb ?_
    obtain ⟨r_6,h1,h⟩:=bd h
    refine oU (CU h1) ?_
    simp+decide only [go_sem,reduceIte,Nat.reduceAdd,Int.reduceAdd,Int.reduceMul,Int.reduceSub]
    rcases brc h with ⟨hb,h⟩|⟨hb,h⟩
    ·refine JY hb ?_
     obtain rfl:=cZ h
     first|rfl| (simp only [bf,go_sem];done)
    ·refine b0k hb ?_
     refine k8 ?_
     simp+decide only [mkL,go_sem,reduceIte,Nat.reduceAdd,Int.reduceAdd,Int.reduceMul,Int.reduceSub]
     obtain ⟨hb,h⟩:=brg h
     refine JY hb ?_
     obtain ⟨hb,h⟩:=brg h
     refine JY hb ?_
     obtain ⟨r_7,h1,h⟩:=bd h
     refine oU (CU h1) ?_
     simp+decide only [go_sem,reduceIte,Nat.reduceAdd,Int.reduceAdd,Int.reduceMul,Int.reduceSub]
     rcases brc h with ⟨hb,h⟩|⟨hb,h⟩
     ·refine JY hb ?_
      obtain rfl:=cZ h
      first|rfl| (simp only [bf,go_sem];done)
     ·refine b0k hb ?_
      refine k8 ?_
      simp+decide only [mkL,go_sem,reduceIte,Nat.reduceAdd,Int.reduceAdd,Int.reduceMul,Int.reduceSub]
      obtain ⟨hb,h⟩:=brg h
      refine JY hb ?_
      obtain ⟨hb,h⟩:=brg h
      refine JY hb ?_
      obtain ⟨r_8,h1,h⟩:=bd h
      refine oU (CU h1) ?_
      simp+decide only [go_sem,reduceIte,Nat.reduceAdd,Int.reduceAdd,Int.reduceMul,Int.reduceSub]
      rcases brc h with ⟨hb,h⟩|⟨hb,h⟩
      ·refine JY hb ?_
       obtain rfl:=cZ h
       first|rfl| (simp only [bf,go_sem];done)
      ·refine b0k hb ?_
       refine k8 ?_
       simp+decide only [mkL,go_sem,reduceIte,Nat.reduceAdd,Int.reduceAdd,Int.reduceMul,Int.reduceSub]
       obtain rfl:=cZ h
       first|rfl| (simp only [bf,go_sem];done)
def pM (a:List Ext) (m:Int):Option (Bool×Int):=
 br ((a.length:Int) !=m) (
 some (true,m)) (
 (gx a).bind fun b=>
 some ((!b),m))
theorem Oz {a m r} (h:pM a m=some r):Call tab ow 237 [sl eExt a,.ptr 0 0 0 1] [⟨1,true,[[I m]]⟩]=some (B r.1,[⟨1,true,[[I r.2]]⟩]):=by
 rw [aj (af:=qC) rfl]
 unfold pM at h
 simp only [qC,Eu]
 have d1:= @pg
 exact go2
end
end Go.AI.Fn
set_option linter.unusedVariables false
set_option linter.unusedSimpArgs false
set_option maxRecDepth 100000
set_option maxHeartbeats 1000000
namespace Go.AI.Fn
noncomputable section
open IntKind (wrap)
def cG (d:List (List Ext)) (t:Int):Int×Int->Option ((Int×Int)⊕((Int×Int)⊕(Int×Bool×Int)))
 | (a,c)=>
   br (decide (a<t)) (
   (atL d a).bind fun x=>
   (pM x c).bind fun b=>
   br b.1 (
   some (.inr (.inl (a,b.2)))) (
   some (.inl ((wrap .i64 (a+1)),b.2)))) (
   some (.inr (.inr (a,decide (a<t),c))))
theorem ku {a t}:LX tab ow (.close [5005]) jf (cG a t) (fun s=>⟨[(0,sl (eL eExt) a),(1,.fn 237 [.ptr 0 0 0 1]),(7,I t),(8,I s.1)],[(0,⟨1,true,[[I s.2]]⟩)]⟩) (alt (fun e=>((.ret,⟨[(4,I e.1)],[(0,⟨1,true,[[I e.2]]⟩)]⟩):bR×St)) (fun e=>(.exit 0,⟨[(0,sl (eL eExt) a),(1,.fn 237 [.ptr 0 0 0 1]),(7,I t),(8,I e.1),(9,B e.2.1)],[(0,⟨1,true,[[I e.2.2]]⟩)]⟩))):=by
 refine lrX (fun s o h=> ?_)
 obtain ⟨_,_⟩:=s
 simp only [cG] at h
 simp only [jf,je]
 have d1:= @Oz
 exact go2
def cW (s:(List (List Ext))) (m:Int):Option (Int×Int):=
 (Loop (cG s (s.length:Int)) (0,m)).bind (alt (fun a=>
 some (a.1,a.2)) (fun b=>
 some ((-1:Int),b.2.2)))
theorem kN {s m r} (h:cW s m=some r):Call tab ow 332 [sl (eL eExt) s,.fn 237 [.ptr 0 0 0 1]] [⟨1,true,[[I m]]⟩]=some (I r.1,[⟨1,true,[[I r.2]]⟩]):=by
 rw [aj (af:=dZ) rfl]
 unfold cW at h
 simp only [dZ,gj]
 have d1:= @ku
 exact go2
def cJ (s:(List (List Ext))) (m:Int):Option (Bool×Int):=
 (cW s m).bind fun a=>
 some (decide (a.1>=0),a.2)
theorem jU {s m r} (h:cJ s m=some r):Call tab ow 236 [sl (eL eExt) s,.fn 237 [.ptr 0 0 0 1]] [⟨1,true,[[I m]]⟩]=some (B r.1,[⟨1,true,[[I r.2]]⟩]):=by
 rw [aj (af:=dF) rfl]
 unfold cJ at h
 simp only [dF,j0]
 have d1:= @kN
 exact go2
def nK (a:(List (List Ext))) (c b:Int):Option Bool:=
 br ((a.length:Int)==c) (
 (cJ a b).bind fun d=>
 some (!d.1)) (
 some false)
theorem J8 {a c b r} (h:nK a c b=some r):Call tab ow 117 [sl (eL eExt) a,I c,I b] []=some (B r,[]):=by
 rw [aj (af:=tV) rfl]
 unfold nK at h
 simp only [tV,Iy]
 have d1:= @jU
 exact go2
def i6 (x:List UInt8):Option Bool:=
 (uY x).bind fun a=>
 some (!a)
theorem BA {x r} (h:i6 x=some r):Call tab ow 239 [S x,.ptr 0 0 0 1] [⟨1,true,[[.fn 119 []]]⟩]=some (B r,[⟨1,true,[[.fn 119 []]]⟩]):=by
 rw [aj (af:=oF) rfl]
 unfold i6 at h
 simp only [oF,Ca]
 have d1:= @CR
 exact go2
def bY (c:List (List UInt8)) (t:Int):Int->Option ((Int)⊕(Int⊕(Int×Bool)))
 |a=>
  br (decide (a<t)) (
  (atL c a).bind fun x=>
  (i6 x).bind fun b=>
  br b (
  some (.inr (.inl a))) (
  some (.inl (wrap .i64 (a+1))))) (
  some (.inr (.inr (a,decide (a<t)))))
theorem iy {a t}:LX tab ow (.close [5005]) dO (bY a t) (fun s=>⟨[(0,sl eS a),(1,.fn 239 [.ptr 0 0 0 1]),(7,I t),(8,I s)],[(0,⟨1,true,[[.fn 119 []]]⟩)]⟩) (alt (fun e=>((.ret,⟨[(4,I e)],[(0,⟨1,true,[[.fn 119 []]]⟩)]⟩):bR×St)) (fun e=>(.exit 0,⟨[(0,sl eS a),(1,.fn 239 [.ptr 0 0 0 1]),(7,I t),(8,I e.1),(9,B e.2)],[(0,⟨1,true,[[.fn 119 []]]⟩)]⟩))):=by
 refine lrX (fun s o h=> ?_)
 simp only [bY] at h
 simp only [dO,fG]
 have d1:= @BA
 exact go2
def co (s:(List (List UInt8))):Option Int:=
 (Loop (bY s (s.length:Int)) 0).bind (alt (fun a=>
 some a) (fun b=>
 some (-1:Int)))
theorem iX {s r} (h:co s=some r):Call tab ow 333 [sl eS s,.fn 239 [.ptr 0 0 0 1]] [⟨1,true,[[.fn 119 []]]⟩]=some (I r,[⟨1,true,[[.fn 119 []]]⟩]):=by
 rw [aj (af:=cN) rfl]
 unfold co at h
 simp only [cN,e6]
 have d1:= @iy
 exact go2
def cc (s:(List (List UInt8))):Option Bool:=
 (co s).bind fun a=>
 some (decide (a>=0))
theorem iu {s r} (h:cc s=some r):Call tab ow 238 [sl eS s,.fn 239 [.ptr 0 0 0 1]] [⟨1,true,[[.fn 119 []]]⟩]=some (B r,[⟨1,true,[[.fn 119 []]]⟩]):=by
 rw [aj (af:=cA) rfl]
 unfold cc at h
 simp only [cA,fq]
 have d1:= @iX
 exact go2
def gL (a:(List (List UInt8))):Option Bool:=
 (cc a).bind fun b=>
 some (!b)
theorem sV {a r} (h:gL a=some r):Call tab ow 118 [.fn 119 [],sl eS a] []=some (B r,[]):=by
 rw [aj (af:=rR) rfl]
 unfold gL at h
 simp only [rR,Gt]
 have d1:= @iu
 exact go2
def kI (a:Int) (f:List (List (List UInt8))) (e:Int) (c:List Ext) (k:List (List (List UInt8))) (h i j:Int):Int->Option ((Int)⊕(Unit⊕(Int×Bool)))
 |b=>
  br (decide (b<e)) (
  (atL f b).bind fun x=>
  br ((x.length:Int) !=(wrap .i64 ((wrap .i64 ((wrap .i64 (a+h))-1))-b))) (
  some (.inr (.inl ()))) (
  (gL x).bind fun d=>
  br (!d) (
  some (.inr (.inl ()))) (
  some (.inl (wrap .i64 (b+1)))))) (
  some (.inr (.inr (b,decide (b<e)))))
abbrev uC (c:List Ext) (d:List (List (List UInt8))) (b e a:Int):List (Nat×Blk):=[(1000,⟨2,true,[[sl eExt c,sl (eL eS) d]]⟩),(1001,⟨3,true,[[I b,I e,I a]]⟩)]
theorem Tl {a j k c f i b d}:LX tab ow (.close [7012]) Ip (kI a j k c f i b d) (fun s=>⟨[(1,I a),(5,.ptr 1001 0 0 1),(29,sl (eL eS) j),(30,I k),(31,I s)],uC c f i b d⟩) (alt (fun e=>((.ret,⟨[(6,B false)],uC c f i b d⟩):bR×St)) (fun e=>(.exit 0,⟨[(1,I a),(5,.ptr 1001 0 0 1),(29,sl (eL eS) j),(30,I k),(31,I e.1),(32,B e.2)],uC c f i b d⟩))):=by
 refine lrX (fun s o h=> ?_)
 simp only [kI] at h
 simp only [uC,Ip,It]
 have d1:= @sV
 exact go2
def xY (q:Query) (a:Int) (t:Setting):Option Bool:=
 br ((q.Pairs.length:Int) !=(wrap .i64 (2*a))) (
 some false) (
 (gx q.Pairs).bind fun c=>
 br (!c) (
 some false) (
 br ((q.Paths.length:Int) !=a) (
 some false) (
 (Loop (kI a q.Paths (q.Paths.length:Int) q.Pairs q.Paths t.Rate t.Queries t.Grind) 0).bind (alt (fun b=>
 some false) (fun d=>
 some true)))))
theorem a1P {q a t r} (h:xY q a t=some r):Call tab ow 122 [.agg [sl eExt q.Pairs,sl (eL eS) q.Paths],I a,.agg [I t.Rate,I t.Queries,I t.Grind]] []=some (B r,[]):=by
 rw [aj (af:=zo) rfl]
 unfold xY at h
 simp only [zo,EX]
 have d1:= @pg
 have d2:= @Tl
 exact go2
def uz (q:Query) (m:Int) (a:Setting):Option (Bool×Int×Setting):=
 (xY q m a).bind fun b=>
 some (b,m,a)
theorem Ox {q m a r} (h:uz q m a=some r):Call tab ow 121 [.agg [sl eExt q.Pairs,sl (eL eS) q.Paths],.ptr 0 0 0 1,.ptr 1 0 0 1] [⟨1,true,[[I m]]⟩,⟨3,true,[[I a.Rate,I a.Queries,I a.Grind]]⟩]=some (B r.1,[⟨1,true,[[I r.2.1]]⟩,⟨3,true,[[I r.2.2.Rate,I r.2.2.Queries,I r.2.2.Grind]]⟩]):=by
 rw [aj (af:=qr) rfl]
 unfold uz at h
 simp only [qr,Ed]
 have d1:= @a1P
 exact go2
def dx (x:Query) (m:Int) (b:Setting):Option (Bool×Int×Setting):=
 (uz x m b).bind fun a=>
 some ((!a.1),a.2.1,a.2.2)
theorem vF {x m a r} (h:dx x m a=some r):Call tab ow 241 [.agg [sl eExt x.Pairs,sl (eL eS) x.Paths],.ptr 0 0 0 1] [⟨1,true,[[.fn 121 [.ptr 1 0 0 1,.ptr 2 0 0 1]]]⟩,⟨1,true,[[I m]]⟩,⟨3,true,[[I a.Rate,I a.Queries,I a.Grind]]⟩]=some (B r.1,[⟨1,true,[[.fn 121 [.ptr 1 0 0 1,.ptr 2 0 0 1]]]⟩,⟨1,true,[[I r.2.1]]⟩,⟨3,true,[[I r.2.2.Rate,I r.2.2.Queries,I r.2.2.Grind]]⟩]):=by
 rw [aj (af:=nl) rfl]
 unfold dx at h
 simp only [nl,zB]
 have d1:= @Ox
 exact go2
def bm (h:List Query) (t:Int):Int×Int×Int×Int×Int->Option ((Int×Int×Int×Int×Int)⊕((Int×Int×Int×Int×Int)⊕(Int×Bool×Int×Int×Int×Int)))
 | (b,c,e,f,d)=>
   br (decide (b<t)) (
   (atL h b).bind fun x=>
   (dx x c (Setting.mk e f d)).bind fun a=>
   br a.1 (
   some (.inr (.inl (b,a.2.1,a.2.2.Rate,a.2.2.Queries,a.2.2.Grind)))) (
   some (.inl ((wrap .i64 (b+1)),a.2.1,a.2.2.Rate,a.2.2.Queries,a.2.2.Grind)))) (
   some (.inr (.inr (b,decide (b<t),c,e,f,d))))
abbrev bI (c b a d:Int):List (Nat×Blk):=[(0,⟨1,true,[[.fn 121 [.ptr 1 0 0 1,.ptr 2 0 0 1]]]⟩),(1,⟨1,true,[[I c]]⟩),(2,⟨3,true,[[I b,I a,I d]]⟩)]
theorem gn {a t}:LX tab ow (.close [5005]) iE (bm a t) (fun s=>⟨[(0,sl eQuery a),(1,.fn 241 [.ptr 0 0 0 1]),(7,I t),(8,I s.1)],bI s.2.1 s.2.2.1 s.2.2.2.1 s.2.2.2.2⟩) (alt (fun e=>((.ret,⟨[(4,I e.1)],bI e.2.1 e.2.2.1 e.2.2.2.1 e.2.2.2.2⟩):bR×St)) (fun e=>(.exit 0,⟨[(0,sl eQuery a),(1,.fn 241 [.ptr 0 0 0 1]),(7,I t),(8,I e.1),(9,B e.2.1)],bI e.2.2.1 e.2.2.2.1 e.2.2.2.2.1 e.2.2.2.2.2⟩))):=by
 refine lrX (fun s o h=> ?_)
 obtain ⟨_,_,_,_,_⟩:=s
 simp only [bm] at h
 simp only [bI,iE,iD]
 have d1:= @vF
 exact go2
def bO (s:List Query) (m:Int) (c:Setting):Option (Int×Int×Setting):=
 (Loop (bm s (s.length:Int)) (0,m,c.Rate,c.Queries,c.Grind)).bind (alt (fun a=>
 some (a.1,a.2.1,(Setting.mk a.2.2.1 a.2.2.2.1 a.2.2.2.2))) (fun b=>
 some ((-1:Int),b.2.2.1,(Setting.mk b.2.2.2.1 b.2.2.2.2.1 b.2.2.2.2.2))))
theorem gM {s m a r} (h:bO s m a=some r):Call tab ow 334 [sl eQuery s,.fn 241 [.ptr 0 0 0 1]] [⟨1,true,[[.fn 121 [.ptr 1 0 0 1,.ptr 2 0 0 1]]]⟩,⟨1,true,[[I m]]⟩,⟨3,true,[[I a.Rate,I a.Queries,I a.Grind]]⟩]=some (I r.1,[⟨1,true,[[.fn 121 [.ptr 1 0 0 1,.ptr 2 0 0 1]]]⟩,⟨1,true,[[I r.2.1]]⟩,⟨3,true,[[I r.2.2.Rate,I r.2.2.Queries,I r.2.2.Grind]]⟩]):=by
 rw [aj (af:=dN) rfl]
 unfold bO at h
 simp only [dN,fF]
 have d1:= @gn
 exact go2
def bK (s:List Query) (m:Int) (b:Setting):Option (Bool×Int×Setting):=
 (bO s m b).bind fun a=>
 some (decide (a.1>=0),a.2.1,a.2.2)
theorem gk {s m a r} (h:bK s m a=some r):Call tab ow 240 [sl eQuery s,.fn 241 [.ptr 0 0 0 1]] [⟨1,true,[[.fn 121 [.ptr 1 0 0 1,.ptr 2 0 0 1]]]⟩,⟨1,true,[[I m]]⟩,⟨3,true,[[I a.Rate,I a.Queries,I a.Grind]]⟩]=some (B r.1,[⟨1,true,[[.fn 121 [.ptr 1 0 0 1,.ptr 2 0 0 1]]]⟩,⟨1,true,[[I r.2.1]]⟩,⟨3,true,[[I r.2.2.Rate,I r.2.2.Queries,I r.2.2.Grind]]⟩]):=by
 rw [aj (af:=dp) rfl]
 unfold bK at h
 simp only [dp,is]
 have d1:= @gM
 exact go2
def hK (a:List Query) (m:Int) (c:Setting):Option (Bool×Int×Setting):=
 (bK a m c).bind fun b=>
 some ((!b.1),b.2.1,b.2.2)
theorem xG {a m b r} (h:hK a m b=some r):Call tab ow 120 [.fn 121 [.ptr 0 0 0 1,.ptr 1 0 0 1],sl eQuery a] [⟨1,true,[[I m]]⟩,⟨3,true,[[I b.Rate,I b.Queries,I b.Grind]]⟩]=some (B r.1,[⟨1,true,[[I r.2.1]]⟩,⟨3,true,[[I r.2.2.Rate,I r.2.2.Queries,I r.2.2.Grind]]⟩]):=by
 rw [aj (af:=qz) rfl]
 unfold hK at h
 simp only [qz,EL]
 have d1:= @gk
 exact go2
def vL (b:Opening) (a:Int) (t:Setting):Option Bool:=
 (jB a 1 6).bind fun j=>
 br j (
 (nW t).bind fun i=>
 br i (
 (nK b.Rounds a 3).bind fun c=>
 br c (
 br ((b.Roots.length:Int)==(wrap .i64 (a-1))) (
 (gL b.Roots).bind fun d=>
 br d (
 (uI b.Last).bind fun f=>
 br f (
 (jB b.Nonce 0 65535).bind fun h=>
 br h (
 br ((b.Queries.length:Int)==t.Queries) (
 (hK b.Queries a t).bind fun e=>
 some e.1) (
 some false)) (
 some false)) (
 some false)) (
 some false)) (
 some false)) (
 some false)) (
 some false)) (
 some false)
theorem Tm {b a t r} (h:vL b a t=some r):Call tab ow 33 [.agg [sl (eL eExt) b.Rounds,sl eS b.Roots,I b.Last.A,I b.Last.B,I b.Nonce,sl eQuery b.Queries],I a,.agg [I t.Rate,I t.Queries,I t.Grind]] []=some (B r,[]):=by
 rw [aj (af:=ui) rfl]
 unfold vL at h
 simp only [ui,IJ]
 have d1:= @yV
 have d2:= @AT
 have d3:= @J8
 have d4:= @sV
 have d5:= @MR
 have d6:= @xG
 exact go2
def Ci (p:Proof) (s:bi) (t:Setting):Option Bool:=
 (sW s).bind fun k=>
 br k (
 (nW t).bind fun j=>
 br j (
 (uY p.Root).bind fun b=>
 br b (
 (nK p.Gates s.Rows 4).bind fun d=>
 br d (
 (uI p.VA).bind fun h=>
 br h (
 (uI p.VB).bind fun i=>
 br i (
 (uI p.VC).bind fun f=>
 br f (
 (nK p.Wires s.Cols 3).bind fun e=>
 br e (
 (uI p.VW).bind fun c=>
 br c (
 (vL p.Open (wrap .i64 (s.Cols-1)) t).bind fun a=>
 some a) (
 some false)) (
 some false)) (
 some false)) (
 some false)) (
 some false)) (
 some false)) (
 some false)) (
 some false)) (
 some false)
theorem a0G {p s t r} (h:Ci p s t=some r):Call tab ow 63 [.agg [S p.Root,sl (eL eExt) p.Gates,I p.VA.A,I p.VA.B,I p.VB.A,I p.VB.B,I p.VC.A,I p.VC.B,sl (eL eExt) p.Wires,I p.VW.A,I p.VW.B,sl (eL eExt) p.Open.Rounds,sl eS p.Open.Roots,I p.Open.Last.A,I p.Open.Last.B,I p.Open.Nonce,sl eQuery p.Open.Queries],.agg [I s.Rows,I s.Cols,I s.Publics,sl aA s.A,sl aA s.B,sl aA s.C],.agg [I t.Rate,I t.Queries,I t.Grind]] []=some (B r,[]):=by
 rw [aj (af:=zt) rfl]
 unfold Ci at h
 simp only [zt,O3]
 have d1:= @LC
 have d2:= @AT
 have d3:= @CR
 have d4:= @J8
 have d5:= @MR
 have d6:= @Tm
 exact go2
def vg (s:bi) (t:Setting) (a:List Int) (b:Source):Option Int:=
 br (decide ((a.length:Int)>4096)) (
 some 2) (
 (sW s).bind fun h=>
 br (!h) (
 some 1) (
 (nW t).bind fun f=>
 br (!f) (
 some 1) (
 (ka a).bind fun c=>
 br (!c) (
 some 1) (
 (yz b).bind fun d=>
 br (!d) (
 some 1) (
 br ((a.length:Int) !=s.Publics) (
 some 17) (
 (uR b).bind fun e=>
 br (decide (e<200)) (
 some 6) (
 some 0)))))))
theorem TJ {s t b a r} (h:vg s t b a=some r):Call tab ow 88 [.agg [I s.Rows,I s.Cols,I s.Publics,sl aA s.A,sl aA s.B,sl aA s.C],.agg [I t.Rate,I t.Queries,I t.Grind],sl eI b,.agg [sl eExt a.Script,I a.At,S a.State,I a.Count]] []=some (I r,[]):=by
 rw [aj (af:=tX) rfl]
 unfold vg at h
 simp only [tX,HL]
 have d1:= @LC
 have d2:= @AT
 have d3:= @Hy
 have d4:= @YM
 have d5:= @P8
 exact go2
def mj (e:List Ext) (i:Int) (t:List Ext) (w u k m l v n s q r o:Int):Int×Int×Int->Option ((Int×Int×Int)⊕((Int×Bool×Int×Int)))
 | (a,c,b)=>
   br (decide (a<k)) (
   br (a !=i) (
   (ir (Ext.mk m l) (Ext.mk a 0)).bind fun p=>
   (dc (Ext.mk c b) p).bind fun j=>
   (QY i a).bind fun h=>
   (tD h).bind fun f=>
   (ik j f).bind fun d=>
   some (.inl ((wrap .i64 (a+1)),d.A,d.B))) (
   some (.inl ((wrap .i64 (a+1)),c,b)))) (
   some (.inr (a,decide (a<k),c,b)))
abbrev Cw (j i k h e f a b d c:Int):List (Nat×Blk):=[(1000,⟨2,true,[[I j,I i]]⟩),(1001,⟨2,true,[[I k,I h]]⟩),(2001,⟨2,true,[[I e,I f]]⟩),(5003,⟨2,true,[[I a,I b]]⟩),(6001,⟨2,true,[[I d,I c]]⟩)]
theorem XN {a i r k l p m n q j d f b c}:LX tab ow (.close [11004,11005,11008,11009,11010]) LF (mj a i r k l p m n q j d f b c) (fun s=>⟨[(0,sl eExt a),(3,.ptr 1000 0 0 1),(4,.ptr 1001 0 0 1),(5,.ptr 2001 0 0 1),(6,I i),(8,.ptr 6001 0 0 1),(11,sl eExt r),(12,I k),(13,I l),(20,I p),(21,I s.1)],Cw m n q j d f b c s.2.1 s.2.2⟩) (fun e=>(.exit 2,⟨[(0,sl eExt a),(3,.ptr 1000 0 0 1),(4,.ptr 1001 0 0 1),(5,.ptr 2001 0 0 1),(6,I i),(8,.ptr 6001 0 0 1),(11,sl eExt r),(12,I k),(13,I l),(20,I p),(21,I e.1),(22,B e.2.1)],Cw m n q j d f b c e.2.2.1 e.2.2.2⟩)):=by
 refine lrX (fun s o h=> ?_)
 obtain ⟨_,_,_⟩:=s
 simp only [mj] at h
 simp only [Cw,LF,Ky]
 have d1:= @mU
 have d2:= @eY
 have d3:= @a6W
 have d4:= @NO
 have d5:= @o2
 exact go2
def mh (a t:List Ext) (h c l m k:Int):Int×Int×Int->Option ((Int×Int×Int)⊕((Int×Bool×Int×Int)))
 | (b,i,f)=>
   br (decide (b<h)) (
   (atL t b).bind fun e=>
   (Loop (mj a b t h b (a.length:Int) c l m k i f e.A e.B) (0,e.A,e.B)).bind fun j=>
   (fR (Ext.mk i f) (Ext.mk j.2.2.1 j.2.2.2)).bind fun d=>
   some (.inl ((wrap .i64 (b+1)),d.A,d.B))) (
   some (.inr (b,decide (b<h),i,f)))
abbrev CZ (c e f b d a:Int):List (Nat×Blk):=[(1000,⟨2,true,[[I c,I e]]⟩),(1001,⟨2,true,[[I f,I b]]⟩),(2001,⟨2,true,[[I d,I a]]⟩)]
theorem XX {a t d c f i b}:LX tab ow (.close [5003,6001,11004,11005,11008,11009,11010,13002]) LJ (mh a t d c f i b) (fun s=>⟨[(0,sl eExt a),(3,.ptr 1000 0 0 1),(4,.ptr 1001 0 0 1),(5,.ptr 2001 0 0 1),(11,sl eExt t),(12,I d),(13,I s.1)],CZ c f i b s.2.1 s.2.2⟩) (fun e=>(.exit 0,⟨[(0,sl eExt a),(3,.ptr 1000 0 0 1),(4,.ptr 1001 0 0 1),(5,.ptr 2001 0 0 1),(11,sl eExt t),(12,I d),(13,I e.1),(14,B e.2.1)],CZ c f i b e.2.2.1 e.2.2.2⟩)):=by
 refine lrX (fun s o h=> ?_)
 obtain ⟨_,_,_⟩:=s
 simp only [mh] at h
 simp only [CZ,LJ,Lf]
 have d1:= @XN
 have d2:= @ij
 exact go2
def Cj (a:List Ext) (x:Ext):Option Ext:=
 (Loop (mh a a (a.length:Int) x.A x.B 0 0) (0,0,0)).bind fun b=>
 some (Ext.mk b.2.2.1 b.2.2.2)
theorem Qf {a x r} (h:Cj a x=some r):Call tab ow 326 [sl eExt a,.agg [I x.A,I x.B]] []=some (.agg [I r.A,I r.B],[]):=by
 rw [aj (af:=CQ) rfl]
 unfold Cj at h
 simp only [CQ,Dl]
 have d1:= @XX
 exact go2
def Mm (a:Int):Option Unit:=
 some ()
theorem a2e {a r} (h:Mm a=some r):Call tab ow 298 [I a] []=some (.tup [],[]):=by
 rw [aj (af:=zR) rfl]
 unfold Mm at h
 simp only [zR,NN]
 exact go2
section
@[local go_sem] theorem NA:mkR 2000 []=rws eExt []:=rfl
@[local go_sem] theorem Ob:mkR 12005 []=rws eExt []:=rfl
def bH (b:Int) (t:List (List Ext)) (o v u:Int):(List Ext)×Int×(List Ext)×Int×(List UInt8)×Int×Int×Int->Option (((List Ext)×Int×(List Ext)×Int×(List UInt8)×Int×Int×Int)⊕(((List Ext)×Int×(List Ext)×Int×(List UInt8)×Int×Int×Int)⊕((List Ext)×Int×Bool×(List Ext)×Int×(List UInt8)×Int×Int×Int)))
 | (l,d,c,i,k,f,j,e)=>
   br (decide (d<o)) (
   (atL t d).bind fun x=>
   (qY b).bind fun q=>
   br ((x.length:Int) !=(wrap .i64 (q+1))) (
   some (.inr (.inl (l,18,c,i,k,f,j,e)))) (
   (atL x 0).bind fun s=>
   (atL x 1).bind fun p=>
   (fR s p).bind fun m=>
   br (m.A==j) (
   br (m.B==e) (
   (da x (Source.mk c i k f)).bind fun n=>
   (jg n).bind fun a=>
   (Cj x a.1).bind fun h=>
   br (cP ((l++([a.1]:List Ext)).length) 16) (
   (Mm d).bind fun r=>
   some (.inl ((l++([a.1]:List Ext)),(wrap .i64 (d+1)),a.2.Script,a.2.At,a.2.State,a.2.Count,h.A,h.B))) none) (
   some (.inr (.inl (l,10,c,i,k,f,j,e))))) (
   some (.inr (.inl (l,10,c,i,k,f,j,e)))))) (
   some (.inr (.inr (l,d,decide (d<o),c,i,k,f,j,e))))
abbrev ib (e d:Int) (l c:List Ext) (f:Int) (i:List UInt8) (b h a:Int):List (Nat×Blk):=[(0,⟨4,true,[[sl eExt c,I f,S i,I b]]⟩),(1000,⟨2,true,[[I h,I a]]⟩),(1002,⟨2,true,[[I e,I d]]⟩),(2000,⟨2,false,rws eExt l⟩)]
theorem tT {a t d c b}:LX tab ow (.close [6003,8006,10002,11001,11002,12002,12005,12006,13002]) jb (bH a t d c b) (fun s=>⟨[(0,.ptr 0 0 0 1),(1,I a),(4,.fn 298 []),(7,.ptr 1000 0 0 1),(11,.ptr 1002 0 0 1),(13,.sl 2000 0 s.1.length),(18,sl (eL eExt) t),(19,I d),(20,I s.2.1)],ib c b s.1 s.2.2.1 s.2.2.2.1 s.2.2.2.2.1 s.2.2.2.2.2.1 s.2.2.2.2.2.2.1 s.2.2.2.2.2.2.2⟩) (alt (fun e=>((.ret,⟨[(10,.lit (.slice none 0 0)),(11,.ptr 1002 0 0 1),(12,I e.2.1)],[(0,⟨4,true,[[sl eExt e.2.2.1,I e.2.2.2.1,S e.2.2.2.2.1,I e.2.2.2.2.2.1]]⟩),(1000,⟨2,true,[[I e.2.2.2.2.2.2.1,I e.2.2.2.2.2.2.2]]⟩),(1002,⟨2,true,[[I 0,I 0]]⟩),(2000,⟨2,false,rws eExt e.1⟩)]⟩):bR×St)) (fun e=>(.exit 0,⟨[(0,.ptr 0 0 0 1),(1,I a),(4,.fn 298 []),(7,.ptr 1000 0 0 1),(11,.ptr 1002 0 0 1),(13,.sl 2000 0 e.1.length),(18,sl (eL eExt) t),(19,I d),(20,I e.2.1),(21,B e.2.2.1)],ib c b e.1 e.2.2.2.1 e.2.2.2.2.1 e.2.2.2.2.2.1 e.2.2.2.2.2.2.1 e.2.2.2.2.2.2.2.1 e.2.2.2.2.2.2.2.2⟩))):=by
 refine lrX (fun s o h=> ?_)
 obtain ⟨_,_,_,_,_,_,_,_⟩:=s
 simp only [bH] at h
 simp only [ib,jb,mm]
 have d1:= @KZ
 have d2:= @ij
 have d3:= @jP
 have d4:= @wj
 have d5:= @Qf
 have d6:= @a2e
 exact go2
def cO (e:Int) (d:Ext) (b:(List (List Ext))) (m:Source):Option ((List Ext)×Ext×Int×Source):=
 (Loop (bH e b (b.length:Int) 0 0) (([]:List Ext),0,m.Script,m.At,m.State,m.Count,d.A,d.B)).bind (alt (fun c=>
 some (([]:List Ext),(Ext.mk 0 0),c.2.1,(Source.mk c.2.2.1 c.2.2.2.1 c.2.2.2.2.1 c.2.2.2.2.2.1))) (fun a=>
 some (a.1,(Ext.mk a.2.2.2.2.2.2.2.1 a.2.2.2.2.2.2.2.2),0,(Source.mk a.2.2.2.1 a.2.2.2.2.1 a.2.2.2.2.2.1 a.2.2.2.2.2.2.1))))
theorem w9 {c a b m r} (h:cO c a b m=some r):Call tab ow 219 [.ptr 0 0 0 1,I c,.agg [I a.A,I a.B],sl (eL eExt) b,.fn 298 []] [⟨4,true,[[sl eExt m.Script,I m.At,S m.State,I m.Count]]⟩]=some (.tup [sl eExt r.1,.agg [I r.2.1.A,I r.2.1.B],I r.2.2.1],[⟨4,true,[[sl eExt r.2.2.2.Script,I r.2.2.2.At,S r.2.2.2.State,I r.2.2.2.Count]]⟩]):=by
 rw [aj (af:=fV) rfl]
 unfold cO at h
 simp only [fV,kq]
 have d1:= @tT
 exact go2
end
def qF (o t:List Ext) (n c r:Int):Int×Int×Int->Option ((Int×Int×Int)⊕((Int×Bool×Int×Int)))
 | (a,l,m)=>
   br (decide (a<n)) (
   (atL t a).bind fun x=>
   (atL o a).bind fun q=>
   (dc x q).bind fun k=>
   (No).bind fun d=>
   (ir d x).bind fun e=>
   (No).bind fun i=>
   (atL o a).bind fun p=>
   (ir i p).bind fun j=>
   (dc e j).bind fun h=>
   (fR k h).bind fun f=>
   (dc (Ext.mk l m) f).bind fun b=>
   some (.inl ((wrap .i64 (a+1)),b.A,b.B))) (
   some (.inr (a,decide (a<n),l,m)))
abbrev JK (c b a d:Int):List (Nat×Blk):=[(1000,⟨2,true,[[I c,I b]]⟩),(2001,⟨2,true,[[I a,I d]]⟩)]
theorem a5S {a t b c d}:LX tab ow (.close [5003,6006,6007,6009,6010,6015,6016,6017,6018]) Sv (qF a t b c d) (fun s=>⟨[(1,sl eExt a),(4,.ptr 1000 0 0 1),(5,.ptr 2001 0 0 1),(9,sl eExt t),(10,I b),(11,I s.1)],JK c d s.2.1 s.2.2⟩) (fun e=>(.exit 0,⟨[(1,sl eExt a),(4,.ptr 1000 0 0 1),(5,.ptr 2001 0 0 1),(9,sl eExt t),(10,I b),(11,I e.1),(12,B e.2.1)],JK c d e.2.2.1 e.2.2.2⟩)):=by
 refine lrX (fun s o h=> ?_)
 obtain ⟨_,_,_⟩:=s
 simp only [qF] at h
 simp only [JK,Sv,Qr]
 have d1:= @eY
 have d2:= @Pp
 have d3:= @mU
 have d4:= @ij
 exact go2
def Jk (a b:List Ext):Option Ext:=
 (No).bind fun d=>
 (Loop (qF b a (a.length:Int) 0 0) (0,d.A,d.B)).bind fun c=>
 some (Ext.mk c.2.2.1 c.2.2.2)
theorem a2r {a b r} (h:Jk a b=some r):Call tab ow 222 [sl eExt a,sl eExt b] []=some (.agg [I r.A,I r.B],[]):=by
 rw [aj (af:=K9) rfl]
 unfold Jk at h
 simp only [K9,QG]
 have d1:= @Pp
 have d2:= @a5S
 exact go2
def yW (s:bi) (a:List Int) (b:List Ext):Option Ext:=
 (mD s a ([]:List Int)).bind fun h=>
 (eX s).bind fun f=>
 (lr h 0 f).bind fun y=>
 (SK y).bind fun c=>
 (tj b).bind fun d=>
 (Lt c d).bind fun e=>
 some e
theorem Zi {s a b r} (h:yW s a b=some r):Call tab ow 301 [.agg [I s.Rows,I s.Cols,I s.Publics,sl aA s.A,sl aA s.B,sl aA s.C],sl eI a,sl eExt b] []=some (.agg [I r.A,I r.B],[]):=by
 rw [aj (af:=wT) rfl]
 unfold yW at h
 simp only [wT,KY]
 have d1:= @Ku
 have d2:= @mz
 have d3:= @b1Z
 have d4:= @Fg
 have d5:= @a6G
 exact go2
def lm (k m:Int) (a:Opening) (b:Source):Option (Int×Opening×Source):=
 br (decide (k<(wrap .i64 (m-1)))) (
 (atL a.Roots k).bind fun x=>
 br (cP x.length 1) (
 (fN x b).bind fun c=>
 some (m,a,c)) none) (
 some (m,a,b))
theorem K1 {k m a b r} (h:lm k m a b=some r):Call tab ow 220 [I k,.ptr 0 0 0 1,.ptr 1 0 0 1,.ptr 2 0 0 1] [⟨1,true,[[I m]]⟩,⟨1,true,[[.ptr 3 0 0 1]]⟩,⟨6,true,[[sl (eL eExt) a.Rounds,sl eS a.Roots,I a.Last.A,I a.Last.B,I a.Nonce,sl eQuery a.Queries]]⟩,⟨4,true,[[sl eExt b.Script,I b.At,S b.State,I b.Count]]⟩]=some (.tup [],[⟨1,true,[[I r.1]]⟩,⟨1,true,[[.ptr 3 0 0 1]]⟩,⟨6,true,[[sl (eL eExt) r.2.1.Rounds,sl eS r.2.1.Roots,I r.2.1.Last.A,I r.2.1.Last.B,I r.2.1.Nonce,sl eQuery r.2.1.Queries]]⟩,⟨4,true,[[sl eExt r.2.2.Script,I r.2.2.At,S r.2.2.State,I r.2.2.Count]]⟩]):=by
 rw [aj (af:=mi) rfl]
 unfold lm at h
 simp only [mi,yj]
 have d1:= @np
 exact go2
section
@[local go_sem] theorem Hr:mkR 2000 []=rws eExt []:=rfl
@[local go_sem] theorem Hq:mkR 12005 []=rws eExt []:=rfl
def bn (i:Int) (t:List (List Ext)) (y c14 z:Int):(List Ext)×Int×(List Ext)×Int×(List UInt8)×Int×Int×(List (List Ext))×(List (List UInt8))×Int×Int×Int×(List Query)×Int×Int->Option (((List Ext)×Int×(List Ext)×Int×(List UInt8)×Int×Int×(List (List Ext))×(List (List UInt8))×Int×Int×Int×(List Query)×Int×Int)⊕(((List Ext)×Int×(List Ext)×Int×(List UInt8)×Int×Int×(List (List Ext))×(List (List UInt8))×Int×Int×Int×(List Query)×Int×Int)⊕((List Ext)×Int×Bool×(List Ext)×Int×(List UInt8)×Int×Int×(List (List Ext))×(List (List UInt8))×Int×Int×Int×(List Query)×Int×Int)))
 | (l,j,c,q,v,s,u,o,k,m,r,b,f,d,e)=>
   br (decide (j<y)) (
   (atL t j).bind fun x=>
   (qY i).bind fun r_=>
   br ((x.length:Int) !=(wrap .i64 (r_+1))) (
   some (.inr (.inl (l,18,c,q,v,s,u,o,k,m,r,b,f,d,e)))) (
   (atL x 0).bind fun x2=>
   (atL x 1).bind fun x3=>
   (fR x2 x3).bind fun p=>
   br (p.A==d) (
   br (p.B==e) (
   (da x (Source.mk c q v s)).bind fun w=>
   (jg w).bind fun h=>
   (Cj x h.1).bind fun n=>
   br (cP ((l++([h.1]:List Ext)).length) 16) (
   (lm j u (Opening.mk o k (Ext.mk m r) b f) h.2).bind fun a=>
   some (.inl ((l++([h.1]:List Ext)),(wrap .i64 (j+1)),a.2.2.Script,a.2.2.At,a.2.2.State,a.2.2.Count,a.1,a.2.1.Rounds,a.2.1.Roots,a.2.1.Last.A,a.2.1.Last.B,a.2.1.Nonce,a.2.1.Queries,n.A,n.B))) none) (
   some (.inr (.inl (l,10,c,q,v,s,u,o,k,m,r,b,f,d,e))))) (
   some (.inr (.inl (l,10,c,q,v,s,u,o,k,m,r,b,f,d,e)))))) (
   some (.inr (.inr (l,j,decide (j<y),c,q,v,s,u,o,k,m,r,b,f,d,e))))
abbrev fb (b d:Int) (l c:List Ext) (n:Int) (p:List UInt8) (j o:Int) (i:List (List Ext)) (k:List (List UInt8)) (m q h:Int) (e:List Query) (f a:Int):List (Nat×Blk):=[(0,⟨4,true,[[sl eExt c,I n,S p,I j]]⟩),(1,⟨1,true,[[I o]]⟩),(2,⟨1,true,[[.ptr 0 0 0 1]]⟩),(3,⟨6,true,[[sl (eL eExt) i,sl eS k,I m,I q,I h,sl eQuery e]]⟩),(1000,⟨2,true,[[I f,I a]]⟩),(1002,⟨2,true,[[I b,I d]]⟩),(2000,⟨2,false,rws eExt l⟩)]
theorem oy {a t d c b}:LX tab ow (.close [6003,8006,10002,11001,11002,12002,12005,12006,13002]) jb (bn a t d c b) (fun s=>⟨[(0,.ptr 0 0 0 1),(1,I a),(4,.fn 220 [.ptr 1 0 0 1,.ptr 2 0 0 1,.ptr 3 0 0 1]),(7,.ptr 1000 0 0 1),(11,.ptr 1002 0 0 1),(13,.sl 2000 0 s.1.length),(18,sl (eL eExt) t),(19,I d),(20,I s.2.1)],fb c b s.1 s.2.2.1 s.2.2.2.1 s.2.2.2.2.1 s.2.2.2.2.2.1 s.2.2.2.2.2.2.1 s.2.2.2.2.2.2.2.1 s.2.2.2.2.2.2.2.2.1 s.2.2.2.2.2.2.2.2.2.1 s.2.2.2.2.2.2.2.2.2.2.1 s.2.2.2.2.2.2.2.2.2.2.2.1 s.2.2.2.2.2.2.2.2.2.2.2.2.1 s.2.2.2.2.2.2.2.2.2.2.2.2.2.1 s.2.2.2.2.2.2.2.2.2.2.2.2.2.2⟩) (alt (fun e=>((.ret,⟨[(10,.lit (.slice none 0 0)),(11,.ptr 1002 0 0 1),(12,I e.2.1)],[(0,⟨4,true,[[sl eExt e.2.2.1,I e.2.2.2.1,S e.2.2.2.2.1,I e.2.2.2.2.2.1]]⟩),(1,⟨1,true,[[I e.2.2.2.2.2.2.1]]⟩),(2,⟨1,true,[[.ptr 0 0 0 1]]⟩),(3,⟨6,true,[[sl (eL eExt) e.2.2.2.2.2.2.2.1,sl eS e.2.2.2.2.2.2.2.2.1,I e.2.2.2.2.2.2.2.2.2.1,I e.2.2.2.2.2.2.2.2.2.2.1,I e.2.2.2.2.2.2.2.2.2.2.2.1,sl eQuery e.2.2.2.2.2.2.2.2.2.2.2.2.1]]⟩),(1000,⟨2,true,[[I e.2.2.2.2.2.2.2.2.2.2.2.2.2.1,I e.2.2.2.2.2.2.2.2.2.2.2.2.2.2]]⟩),(1002,⟨2,true,[[I 0,I 0]]⟩),(2000,⟨2,false,rws eExt e.1⟩)]⟩):bR×St)) (fun e=>(.exit 0,⟨[(0,.ptr 0 0 0 1),(1,I a),(4,.fn 220 [.ptr 1 0 0 1,.ptr 2 0 0 1,.ptr 3 0 0 1]),(7,.ptr 1000 0 0 1),(11,.ptr 1002 0 0 1),(13,.sl 2000 0 e.1.length),(18,sl (eL eExt) t),(19,I d),(20,I e.2.1),(21,B e.2.2.1)],fb c b e.1 e.2.2.2.1 e.2.2.2.2.1 e.2.2.2.2.2.1 e.2.2.2.2.2.2.1 e.2.2.2.2.2.2.2.1 e.2.2.2.2.2.2.2.2.1 e.2.2.2.2.2.2.2.2.2.1 e.2.2.2.2.2.2.2.2.2.2.1 e.2.2.2.2.2.2.2.2.2.2.2.1 e.2.2.2.2.2.2.2.2.2.2.2.2.1 e.2.2.2.2.2.2.2.2.2.2.2.2.2.1 e.2.2.2.2.2.2.2.2.2.2.2.2.2.2.1 e.2.2.2.2.2.2.2.2.2.2.2.2.2.2.2⟩))):=by
 refine lrX (fun s o h=> ?_)
 obtain ⟨_,_,_,_,_,_,_,_,_,_,_,_,_,_,_⟩:=s
 simp only [bn] at h
 simp only [fb,jb,mm]
 have d1:= @KZ
 have d2:= @ij
 have d3:= @jP
 have d4:= @wj
 have d5:= @Qf
 have d6:= @K1
 exact go2
def e5 (f:Int) (d:Ext) (c:(List (List Ext))) (m:Source) (h:Int) (e:Opening):Option ((List Ext)×Ext×Int×Source×Int×Opening):=
 (Loop (bn f c (c.length:Int) 0 0) (([]:List Ext),0,m.Script,m.At,m.State,m.Count,h,e.Rounds,e.Roots,e.Last.A,e.Last.B,e.Nonce,e.Queries,d.A,d.B)).bind (alt (fun b=>
 some (([]:List Ext),(Ext.mk 0 0),b.2.1,(Source.mk b.2.2.1 b.2.2.2.1 b.2.2.2.2.1 b.2.2.2.2.2.1),b.2.2.2.2.2.2.1,(Opening.mk b.2.2.2.2.2.2.2.1 b.2.2.2.2.2.2.2.2.1 (Ext.mk b.2.2.2.2.2.2.2.2.2.1 b.2.2.2.2.2.2.2.2.2.2.1) b.2.2.2.2.2.2.2.2.2.2.2.1 b.2.2.2.2.2.2.2.2.2.2.2.2.1))) (fun a=>
 some (a.1,(Ext.mk a.2.2.2.2.2.2.2.2.2.2.2.2.2.2.1 a.2.2.2.2.2.2.2.2.2.2.2.2.2.2.2),0,(Source.mk a.2.2.2.1 a.2.2.2.2.1 a.2.2.2.2.2.1 a.2.2.2.2.2.2.1),a.2.2.2.2.2.2.2.1,(Opening.mk a.2.2.2.2.2.2.2.2.1 a.2.2.2.2.2.2.2.2.2.1 (Ext.mk a.2.2.2.2.2.2.2.2.2.2.1 a.2.2.2.2.2.2.2.2.2.2.2.1) a.2.2.2.2.2.2.2.2.2.2.2.2.1 a.2.2.2.2.2.2.2.2.2.2.2.2.2.1))))
theorem pG {c a b m e d r} (h:e5 c a b m e d=some r):Call tab ow 219 [.ptr 0 0 0 1,I c,.agg [I a.A,I a.B],sl (eL eExt) b,.fn 220 [.ptr 1 0 0 1,.ptr 2 0 0 1,.ptr 3 0 0 1]] [⟨4,true,[[sl eExt m.Script,I m.At,S m.State,I m.Count]]⟩,⟨1,true,[[I e]]⟩,⟨1,true,[[.ptr 0 0 0 1]]⟩,⟨6,true,[[sl (eL eExt) d.Rounds,sl eS d.Roots,I d.Last.A,I d.Last.B,I d.Nonce,sl eQuery d.Queries]]⟩]=some (.tup [sl eExt r.1,.agg [I r.2.1.A,I r.2.1.B],I r.2.2.1],[⟨4,true,[[sl eExt r.2.2.2.1.Script,I r.2.2.2.1.At,S r.2.2.2.1.State,I r.2.2.2.1.Count]]⟩,⟨1,true,[[I r.2.2.2.2.1]]⟩,⟨1,true,[[.ptr 0 0 0 1]]⟩,⟨6,true,[[sl (eL eExt) r.2.2.2.2.2.Rounds,sl eS r.2.2.2.2.2.Roots,I r.2.2.2.2.2.Last.A,I r.2.2.2.2.2.Last.B,I r.2.2.2.2.2.Nonce,sl eQuery r.2.2.2.2.2.Queries]]⟩]):=by
 rw [aj (af:=fV) rfl]
 unfold e5 at h
 simp only [fV,kq]
 have d1:= @oy
 exact go2
end
def Bn (a:List UInt8):Option Bool:=
 (uY a).bind fun b=>
 some (!b)
theorem a0P {a r} (h:Bn a=some r):Call tab ow 370 [S a] []=some (B r,[]):=by
 rw [aj (af:=A2) rfl]
 unfold Bn at h
 simp only [A2,N8]
 have d1:= @CR
 exact go2
def cU (c:List (List UInt8)) (t:Int):Int->Option ((Int)⊕(Int⊕(Int×Bool)))
 |a=>
  br (decide (a<t)) (
  (atL c a).bind fun x=>
  (Bn x).bind fun b=>
  br b (
  some (.inr (.inl a))) (
  some (.inl (wrap .i64 (a+1))))) (
  some (.inr (.inr (a,decide (a<t)))))
theorem lR {a t}:LX tab ow (.close [5005]) dO (cU a t) (fun s=>⟨[(0,sl eS a),(1,.fn 370 []),(7,I t),(8,I s)],[]⟩) (alt (fun e=>((.ret,⟨[(4,I e)],[]⟩):bR×St)) (fun e=>(.exit 0,⟨[(0,sl eS a),(1,.fn 370 []),(7,I t),(8,I e.1),(9,B e.2)],[]⟩))):=by
 refine lrX (fun s o h=> ?_)
 simp only [cU] at h
 simp only [dO,fG]
 have d1:= @a0P
 exact go2
def di (s:(List (List UInt8))):Option Int:=
 (Loop (cU s (s.length:Int)) 0).bind (alt (fun a=>
 some a) (fun b=>
 some (-1:Int)))
theorem mI {s r} (h:di s=some r):Call tab ow 333 [sl eS s,.fn 370 []] []=some (I r,[]):=by
 rw [aj (af:=cN) rfl]
 unfold di at h
 simp only [cN,e6]
 have d1:= @lR
 exact go2
def cu (s:(List (List UInt8))):Option Bool:=
 (di s).bind fun a=>
 some (decide (a>=0))
theorem lz {s r} (h:cu s=some r):Call tab ow 238 [sl eS s,.fn 370 []] []=some (B r,[]):=by
 rw [aj (af:=cA) rfl]
 unfold cu at h
 simp only [cA,fq]
 have d1:= @mI
 exact go2
section
@[local go_sem] theorem c57:mkR 2002 []=rws eS []:=rfl
@[local go_sem] theorem c2Z:mkR 9004 []=rws eS []:=rfl
def nL (f:Int) (t:List (List UInt8)) (e:Int):(List (List UInt8))×Int->Option (((List (List UInt8))×Int)⊕(((List (List UInt8))×Int×Bool)))
 | (l,a)=>
   br (decide (a<e)) (
   (atL t a).bind fun x=>
   br (decide (0<=a)) (
   br (decide (a.toNat<l.length)) (
   (l[a.toNat]?).bind fun h=>
   (Ck h).bind fun d=>
   br (decide (0<=a)) (
   br ((cM .i64 (bW .i64 f a) 1)==1) (
   (tR x d).bind fun b=>
   br (cP ((l++([b]:List (List UInt8))).length) 16) (
   some (.inl ((l++([b]:List (List UInt8))),(wrap .i64 (a+1))))) none) (
   (tR d x).bind fun c=>
   br (cP ((l++([c]:List (List UInt8))).length) 16) (
   some (.inl ((l++([c]:List (List UInt8))),(wrap .i64 (a+1))))) none)) none) none) none) (
   some (.inr (l,a,decide (a<e))))
theorem a0k {b t a}:LX tab ow (.close [6004,9003,9004,9005]) NG (nL b t a) (fun s=>⟨[(0,I b),(7,.sl 2002 0 s.1.length),(14,sl eS t),(15,I a),(16,I s.2)],[(2002,⟨1,false,rws eS s.1⟩)]⟩) (fun e=>(.exit 0,⟨[(0,I b),(7,.sl 2002 0 e.1.length),(14,sl eS t),(15,I a),(16,I e.2.1),(17,B e.2.2)],[(2002,⟨1,false,rws eS e.1⟩)]⟩)):=by
 refine lrX (fun s o h=> ?_)
 obtain ⟨_,_⟩:=s
 simp only [nL] at h
 simp only [NG,NL]
 have d1:= @Q6
 have d2:= @Zg
 exact go2
def Lu (i:Int) (b:List UInt8) (a:(List (List UInt8))):Option ((List (List UInt8))):=
 (yU b).bind fun d=>
 (Loop (nL i a (a.length:Int)) (([d]:List (List UInt8)),0)).bind fun c=>
 some c.1
theorem a8T {i a b r} (h:Lu i a b=some r):Call tab ow 371 [I i,S a,sl eS b] []=some (sl eS r,[]):=by
 rw [aj (af:=H9) rfl]
 unfold Lu at h
 simp only [H9,M7]
 have d1:= @Zo
 have d2:= @a0k
 exact go2
end
def Hi (d:List UInt8) (n i:Int) (b:List UInt8) (a:(List (List UInt8))):Option Bool:=
 br (decide ((b.length:Int)>64)) (
 some false) (
 (KU n).bind fun h=>
 br ((a.length:Int) !=h) (
 some false) (
 (cu a).bind fun f=>
 br f (
 some false) (
 (Lu i b a).bind fun c=>
 (atL c (wrap .i64 ((c.length:Int)-1))).bind fun x=>
 (Ck x).bind fun e=>
 some (e==d))))
theorem a8s {a n i b c r} (h:Hi a n i b c=some r):Call tab ow 327 [S a,I n,I i,S b,sl eS c] []=some (B r,[]):=by
 rw [aj (af:=Hc) rfl]
 unfold Hi at h
 simp only [Hc,W2]
 have d1:= @VT
 have d2:= @lz
 have d3:= @a8T
 have d4:= @Q6
 exact go2
section
@[local go_sem] theorem b1o:mkR 8006 []=rws eExt []:=rfl
def fa (t:List Ext) (f:Int) (s:List (List UInt8)) (p:Int) (c:List (List Ext)) (c2:List (List UInt8)) (c3 c4 c5:Int) (c6:List Query) (o:List Ext) (r:List (List (List UInt8))):Int×Int×Int×Int->Option ((Int×Int×Int×Int)⊕((Int×Int×Int×Int×Int×Int)⊕(Int×Int×Int×Int×Int×Int×Int×Int)⊕(Int×Int×Bool×Int×Int)))
 | (h,a,i,e)=>
   br (decide (a<p)) (
   (atL s a).bind fun x=>
   br (decide (0<=a)) (
   br (decide ((wrap .i64 ((bW .i64 f a).tdiv 2))≠0)) (
   (atL o (wrap .i64 (2*a))).bind fun d=>
   (atL o (wrap .i64 ((wrap .i64 (2*a))+1))).bind fun b=>
   (tk ([d,b]:List Ext)).bind fun v=>
   (atL r a).bind fun y=>
   (Hi x (wrap .i64 ((bW .i64 f a).tdiv 2)) (h.tmod (wrap .i64 ((bW .i64 f a).tdiv 2))) v y).bind fun n=>
   br (!n) (
   some (.inr (.inl (i,e,d.A,d.B,b.A,b.B)))) (
   br (decide (h>=(wrap .i64 ((bW .i64 f a).tdiv 2)))) (
   br (decide (a>0)) (
   br (b.A==i) (
   br (b.B==e) (
   (atL t a).bind fun q=>
   (o5 (bW .i64 f a) (h.tmod (wrap .i64 ((bW .i64 f a).tdiv 2))) d b q).bind fun l=>
   some (.inl ((h.tmod (wrap .i64 ((bW .i64 f a).tdiv 2))),(wrap .i64 (a+1)),l.A,l.B))) (
   some (.inr (.inr (.inl (i,e,d.A,d.B,b.A,b.B,b.A,b.B)))))) (
   some (.inr (.inr (.inl (i,e,d.A,d.B,b.A,b.B,b.A,b.B)))))) (
   (atL t a).bind fun z=>
   (o5 (bW .i64 f a) (h.tmod (wrap .i64 ((bW .i64 f a).tdiv 2))) d b z).bind fun j=>
   some (.inl ((h.tmod (wrap .i64 ((bW .i64 f a).tdiv 2))),(wrap .i64 (a+1)),j.A,j.B)))) (
   br (decide (a>0)) (
   br (d.A==i) (
   br (d.B==e) (
   (atL t a).bind fun u=>
   (o5 (bW .i64 f a) (h.tmod (wrap .i64 ((bW .i64 f a).tdiv 2))) d b u).bind fun k=>
   some (.inl ((h.tmod (wrap .i64 ((bW .i64 f a).tdiv 2))),(wrap .i64 (a+1)),k.A,k.B))) (
   some (.inr (.inr (.inl (i,e,d.A,d.B,b.A,b.B,d.A,d.B)))))) (
   some (.inr (.inr (.inl (i,e,d.A,d.B,b.A,b.B,d.A,d.B)))))) (
   (atL t a).bind fun w=>
   (o5 (bW .i64 f a) (h.tmod (wrap .i64 ((bW .i64 f a).tdiv 2))) d b w).bind fun m=>
   some (.inl ((h.tmod (wrap .i64 ((bW .i64 f a).tdiv 2))),(wrap .i64 (a+1)),m.A,m.B)))))) none) none) (
   some (.inr (.inr (.inr (h,a,decide (a<p),i,e)))))
abbrev tI (c:List (List Ext)) (h:List (List UInt8)) (j d i:Int) (b:List Query) (f:List Ext) (e:List (List (List UInt8))) (k a:Int):List (Nat×Blk):=[(1000,⟨6,true,[[sl (eL eExt) c,sl eS h,I j,I d,I i,sl eQuery b]]⟩),(1001,⟨2,true,[[sl eExt f,sl (eL eS) e]]⟩),(2001,⟨2,true,[[I k,I a]]⟩)]
theorem Mq {t m n l c i k b j a f d}:LX tab ow (.close [7017,7018,8006,8007,8014,10001,15008]) Bm (fa t m n l c i k b j a f d) (fun s=>⟨[(1,sl eExt t),(2,I m),(3,I s.1),(10,.ptr 1000 0 0 1),(11,.ptr 1001 0 0 1),(13,.ptr 2001 0 0 1),(22,sl eS n),(23,I l),(24,I s.2.1)],tI c i k b j a f d s.2.2.1 s.2.2.2⟩) (alt (fun e=>((.ret,⟨[(12,I 9)],[(1000,⟨6,true,[[sl (eL eExt) c,sl eS i,I k,I b,I j,sl eQuery a]]⟩),(1001,⟨2,true,[[sl eExt f,sl (eL eS) d]]⟩),(2001,⟨2,true,[[I e.1,I e.2.1]]⟩),(7017,⟨2,true,[[I e.2.2.1,I e.2.2.2.1]]⟩),(7018,⟨2,true,[[I e.2.2.2.2.1,I e.2.2.2.2.2]]⟩),(8006,mO)]⟩):bR×St)) (alt (fun e=>((.ret,⟨[(12,I 12)],[(1000,⟨6,true,[[sl (eL eExt) c,sl eS i,I k,I b,I j,sl eQuery a]]⟩),(1001,⟨2,true,[[sl eExt f,sl (eL eS) d]]⟩),(2001,⟨2,true,[[I e.1,I e.2.1]]⟩),(7017,⟨2,true,[[I e.2.2.1,I e.2.2.2.1]]⟩),(7018,⟨2,true,[[I e.2.2.2.2.1,I e.2.2.2.2.2.1]]⟩),(8006,mO),(10001,⟨2,true,[[I e.2.2.2.2.2.2.1,I e.2.2.2.2.2.2.2]]⟩)]⟩):bR×St)) (fun e=>(.exit 0,⟨[(1,sl eExt t),(2,I m),(3,I e.1),(10,.ptr 1000 0 0 1),(11,.ptr 1001 0 0 1),(13,.ptr 2001 0 0 1),(22,sl eS n),(23,I l),(24,I e.2.1),(25,B e.2.2.1)],tI c i k b j a f d e.2.2.2.1 e.2.2.2.2⟩)))):=by
 refine lrX (fun s o h=> ?_)
 obtain ⟨_,_,_,_⟩:=s
 simp only [fa] at h
 simp only [tI,Bm,Bf]
 have d1:= @KB
 have d2:= @a8s
 have d3:= @YA
 exact go2
def wZ (b:(List (List UInt8))) (a:List Ext) (h j:Int) (c:Opening) (e:Query):Option Int:=
 (Loop (fa a h b (b.length:Int) c.Rounds c.Roots c.Last.A c.Last.B c.Nonce c.Queries e.Pairs e.Paths) (j,0,0,0)).bind (alt (fun f=>
 some 9) (alt (fun i=>
 some 12) (fun d=>
 br (d.2.2.2.1==c.Last.A) (
 br (d.2.2.2.2==c.Last.B) (
 some 0) (
 some 13)) (
 some 13))))
theorem Te {b a e f c d r} (h:wZ b a e f c d=some r):Call tab ow 228 [sl eS b,sl eExt a,I e,I f,.agg [sl (eL eExt) c.Rounds,sl eS c.Roots,I c.Last.A,I c.Last.B,I c.Nonce,sl eQuery c.Queries],.agg [sl eExt d.Pairs,sl (eL eS) d.Paths]] []=some (I r,[]):=by
 rw [aj (af:=sD) rfl]
 unfold wZ at h
 simp only [sD,yA]
 have d1:= @Mq
 exact go2
end
end
end Go.AI.Fn
