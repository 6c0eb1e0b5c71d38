/- Walks through the program, with open values. -/
import Derived.Test.YtdnkignjanfikaaGreatStr
set_option linter.unusedVariables false
set_option linter.unusedSimpArgs false
set_option maxRecDepth 100000
set_option maxHeartbeats 1000000
namespace Go.AI.Fn
noncomputable section
open IntKind (wrap)
def KV (b:Bool):Option (Int):=
 br b (
 some 1) (
 some 0)
theorem a71 {b r} (h:KV b=some r):Call tab ow 303 [B b] []=some (I r,[]):=by
 rw [aj (af:=D4) rfl]
 unfold KV at h
 simp only [D4,Sd]
 exact go2
def lT (a:Int) (b:List Gate):Int×Int->Option ((Int×Int)⊕((Int×Int×Bool)))
 | (n,k)=>
   br (decide (k<((b.length:Nat):Int))) (
   (atL b k).bind fun x=>
   (KV (x.Op==a)).bind fun c=>
   some (.inl ((wrap .i64 (n+c)),(wrap .i64 (k+1))))) (
   some (.inr (n,k,decide (k<((b.length:Nat):Int)))))
theorem U8 {a b}:LX tab ow (.close [6009]) FZ (lT a b) (fun s=>⟨[(1,I a),(2,.ptr 1000 0 0 1),(5,I s.1),(6,I s.2)],[(1000,⟨1,true,[[sl eGate b]]⟩)]⟩) (fun e=>(.exit 0,⟨[(1,I a),(2,.ptr 1000 0 0 1),(5,I e.1),(6,I e.2.1),(11,B e.2.2)],[(1000,⟨1,true,[[sl eGate b]]⟩)]⟩)):=by
 refine lrX (fun s o h=> ?_)
 obtain ⟨_,_⟩:=s
 simp only [lT] at h
 simp only [FZ,Hg]
 have d1:= @a71
 exact go2
def rg (c:Circuit) (b:Int):Option (Int):=
 (Loop (lT b c.Gates) (0,0)).bind fun a=>
 some a.1
theorem DO {c a r} (h:rg c a=some r):Call tab ow 187 [.agg [sl eGate c.Gates],I a] []=some (I r,[]):=by
 rw [aj (af:=xJ) rfl]
 unfold rg at h
 simp only [xJ,Dp]
 have d1:= @U8
 exact go2
def eH (n b a:Int):Option (Bool):=
 br (decide (b<=n)) (
 some (decide (n<=a))) (
 some false)
theorem oX {n b a r} (h:eH n b a=some r):Call tab ow 115 [I n,I b,I a] []=some (B r,[]):=by
 rw [aj (af:=HE) rfl]
 unfold eH at h
 simp only [HE,Xs]
 exact go2
def C0 (a:Int):Option (Int):=
 (eH a 4 7).bind fun b=>
 br b (
 some 2) (
 br (a==8) (
 some 1) (
 some 0))
theorem a5e {a r} (h:C0 a=some r):Call tab ow 188 [I a] []=some (I r,[]):=by
 rw [aj (af:=zP) rfl]
 unfold C0 at h
 simp only [zP,O0]
 have d1:= @oX
 exact go2
def sk (a b:Int):Option (Int):=
 some ((wrap .i64 (a+b)).tmod 2130706433)
theorem JN {a b r} (h:sk a b=some r):Call tab ow 243 [I a,I b] []=some (I r,[]):=by
 rw [aj (af:=Ds) rfl]
 unfold sk at h
 simp only [Ds,Sc]
 exact go2
def zn (a b:Int):Option (Int):=
 some ((wrap .i64 ((wrap .i64 (a+2130706433))-b)).tmod 2130706433)
theorem Qm {a b r} (h:zn a b=some r):Call tab ow 244 [I a,I b] []=some (I r,[]):=by
 rw [aj (af:=Eb) rfl]
 unfold zn at h
 simp only [Eb,Uf]
 exact go2
def lL (a b:Int):Option (Int):=
 some ((wrap .i64 (a*b)).tmod 2130706433)
theorem DL {a b r} (h:lL a b=some r):Call tab ow 245 [I a,I b] []=some (I r,[]):=by
 rw [aj (af:=DU) rfl]
 unfold lL at h
 simp only [DU,Sv]
 exact go2
def ll (m:List Int) (b:List UInt8):(List Int)×Int->Option (((List Int)×Int)⊕(((List Int)×Int×Bool)))
 | (a,i)=>
   br (decide (i<((b.length:Nat):Int))) (
   br (decide (0<=(wrap .i64 (i.tdiv 8)))&&decide ((wrap .i64 (i.tdiv 8)).toNat<25)) (
   (a[(wrap .i64 (i.tdiv 8)).toNat]?).bind fun x=>
   (atL b i).bind fun c=>
   br (decide (0<=(wrap .u64 (wrap .i64 (8*(i.tmod 8)))))) (
   br (decide (0<=(wrap .i64 (i.tdiv 8)))&&decide ((wrap .i64 (i.tdiv 8)).toNat<25)) (
   br (decide ((wrap .i64 (i.tdiv 8)).toNat<a.length)) (
   some (.inl ((a.set ((wrap .i64 (i.tdiv 8)).toNat) (B7 .u64 x (bG .u64 (wrap .u64 (c.toNat:Int)) (wrap .u64 (wrap .i64 (8*(i.tmod 8))))))),(wrap .i64 (i+1))))) none) none) none) none) (
   some (.inr (a,i,decide (i<((b.length:Nat):Int)))))
abbrev yZ (m a:List Int):List (Nat×Blk):=[(1000,⟨25,true,[ar .u64 m]⟩),(2001,⟨25,true,[ar .u64 a]⟩)]
theorem RA {m a}:LX tab ow (.close []) zx (ll m a) (fun s=>⟨[(0,S a),(2,.ptr 1000 0 0 1),(3,.ptr 2001 0 0 1),(4,I s.2)],yZ m s.1⟩) (fun e=>(.exit 0,⟨[(0,S a),(2,.ptr 1000 0 0 1),(3,.ptr 2001 0 0 1),(4,I e.2.1),(9,B e.2.2)],yZ m e.1⟩)):=by
 refine lrX (fun s o h=> ?_)
 obtain ⟨_,_⟩:=s
 simp only [ll] at h
 simp only [yZ,zx]
 exact go2
def yR (t:(List UInt8)):Option ((List Int)):=
 (Loop (ll (nZ 25) t) ((nZ 25),0)).bind fun a=>
 br (decide (a.1.length=25)) (
 br (decide (a.1.length=25)) (
 br (decide (a.1.length=25)) (
 some a.1) none) none) none
theorem Y2 {t r} (h:yR t=some r):Call tab ow 321 [S t] []=some (.agg (ar .u64 r),[]):=by
 rw [aj (af:=xB) rfl]
 unfold yR at h
 simp only [xB,LB]
 have d1:= @RA
 exact go2
def FT:Option ((List Int)):=
 some ([1,32898,9223372036854808714,9223372039002292224,32907,2147483649,9223372039002292353,9223372036854808585,138,136,2147516425,2147483658,2147516555,9223372036854775947,9223372036854808713,9223372036854808579,9223372036854808578,9223372036854775936,32778,9223372039002259466,9223372039002292353,9223372036854808704,2147483649,9223372039002292232]:List Int)
theorem VM {r} (h:FT=some r):Call tab ow 365 [] []=some (.agg (ar .u64 r),[]):=by
 rw [aj (af:=uW) rfl]
 unfold FT at h
 simp only [uW,Jv]
 exact go2
def FH:Option ((List Int)):=
 some ([0,1,62,28,27,36,44,6,55,20,3,10,43,25,39,41,45,15,21,8,18,2,61,56,14]:List Int)
theorem Wk {r} (h:FH=some r):Call tab ow 366 [] []=some (.agg (ar .u64 r),[]):=by
 rw [aj (af:=uS) rfl]
 unfold FH at h
 simp only [uS,J6]
 exact go2
def yg (x n:Int):Option (Int):=
 br (n==0) (
 some x) (
 br (decide (0<=n)) (
 br (decide (0<=(wrap .u64 (64-n)))) (
 some (B7 .u64 (bG .u64 x n) (bY .u64 x (wrap .u64 (64-n))))) none) none)
theorem OA {x n r} (h:yg x n=some r):Call tab ow 367 [.lit (.int .u64 x),.lit (.int .u64 n)] []=some (.lit (.int .u64 r),[]):=by
 rw [aj (af:=zN) rfl]
 unfold yg at h
 simp only [zN,OP]
 exact go2
def jq (b i j l:List Int) (k:Int):(List Int)×Int->Option (((List Int)×Int)⊕(((List Int)×Int×Bool)))
 | (c,a)=>
   br (decide (a<5)) (
   br (decide (0<=a)&&decide (a.toNat<25)) (
   (b[a.toNat]?).bind fun x=>
   br (decide (0<=(wrap .i64 (a+5)))&&decide ((wrap .i64 (a+5)).toNat<25)) (
   (b[(wrap .i64 (a+5)).toNat]?).bind fun d=>
   br (decide (0<=(wrap .i64 (a+10)))&&decide ((wrap .i64 (a+10)).toNat<25)) (
   (b[(wrap .i64 (a+10)).toNat]?).bind fun h=>
   br (decide (0<=(wrap .i64 (a+15)))&&decide ((wrap .i64 (a+15)).toNat<25)) (
   (b[(wrap .i64 (a+15)).toNat]?).bind fun f=>
   br (decide (0<=(wrap .i64 (a+20)))&&decide ((wrap .i64 (a+20)).toNat<25)) (
   (b[(wrap .i64 (a+20)).toNat]?).bind fun e=>
   br (decide (0<=a)&&decide (a.toNat<5)) (
   br (decide (a.toNat<c.length)) (
   some (.inl ((c.set a.toNat (tm .u64 (tm .u64 (tm .u64 (tm .u64 x d) h) f) e)),(wrap .i64 (a+1))))) none) none) none) none) none) none) none) (
   some (.inr (c,a,decide (a<5))))
abbrev tJ (d a b c e:List Int):List (Nat×Blk):=[(1000,⟨25,true,[ar .u64 d]⟩),(1001,⟨25,true,[ar .u64 a]⟩),(2001,⟨24,true,[ar .u64 b]⟩),(3001,⟨25,true,[ar .u64 c]⟩),(7001,⟨5,true,[ar .u64 e]⟩)]
theorem Nj {f a b d c}:LX tab ow (.close []) ue (jq f a b d c) (fun s=>⟨[(1,.ptr 1000 0 0 1),(2,.ptr 1001 0 0 1),(3,.ptr 2001 0 0 1),(4,.ptr 3001 0 0 1),(5,I c),(6,.ptr 7001 0 0 1),(7,I s.2)],tJ f a b d s.1⟩) (fun e=>(.exit 2,⟨[(1,.ptr 1000 0 0 1),(2,.ptr 1001 0 0 1),(3,.ptr 2001 0 0 1),(4,.ptr 3001 0 0 1),(5,I c),(6,.ptr 7001 0 0 1),(7,I e.2.1),(22,B e.2.2)],tJ f a b d e.1⟩)):=by
 refine lrX (fun s o h=> ?_)
 obtain ⟨_,_⟩:=s
 simp only [jq] at h
 simp only [tJ,ue]
 exact go2
def jz (j e k c:List Int) (l:Int):(List Int)×Int->Option (((List Int)×Int)⊕(((List Int)×Int×Bool)))
 | (b,a)=>
   br (decide (a<25)) (
   br (decide (0<=a)&&decide (a.toNat<25)) (
   (b[a.toNat]?).bind fun h=>
   br (decide (0<=((wrap .i64 (a+4)).tmod 5))&&decide (((wrap .i64 (a+4)).tmod 5).toNat<5)) (
   (c[((wrap .i64 (a+4)).tmod 5).toNat]?).bind fun f=>
   br (decide (0<=((wrap .i64 (a+1)).tmod 5))&&decide (((wrap .i64 (a+1)).tmod 5).toNat<5)) (
   (c[((wrap .i64 (a+1)).tmod 5).toNat]?).bind fun i=>
   (yg i 1).bind fun d=>
   br (decide (0<=a)&&decide (a.toNat<25)) (
   br (decide (a.toNat<b.length)) (
   some (.inl ((b.set a.toNat (tm .u64 h (tm .u64 f d))),(wrap .i64 (a+1))))) none) none) none) none) none) (
   some (.inr (b,a,decide (a<25))))
abbrev tI (d a e b c:List Int):List (Nat×Blk):=[(1000,⟨25,true,[ar .u64 c]⟩),(1001,⟨25,true,[ar .u64 d]⟩),(2001,⟨24,true,[ar .u64 a]⟩),(3001,⟨25,true,[ar .u64 e]⟩),(7001,⟨5,true,[ar .u64 b]⟩)]
theorem Mz {c a d b f}:LX tab ow (.close [15013]) sn (jz c a d b f) (fun s=>⟨[(1,.ptr 1000 0 0 1),(2,.ptr 1001 0 0 1),(3,.ptr 2001 0 0 1),(4,.ptr 3001 0 0 1),(5,I f),(6,.ptr 7001 0 0 1),(8,I s.2)],tI c a d b s.1⟩) (fun e=>(.exit 4,⟨[(1,.ptr 1000 0 0 1),(2,.ptr 1001 0 0 1),(3,.ptr 2001 0 0 1),(4,.ptr 3001 0 0 1),(5,I f),(6,.ptr 7001 0 0 1),(8,I e.2.1),(51,B e.2.2)],tI c a d b e.1⟩)):=by
 refine lrX (fun s o h=> ?_)
 obtain ⟨_,_⟩:=s
 simp only [jz] at h
 simp only [tI,sn]
 have d1:= @OA
 exact go2
def js (h k j e i:List Int) (m b:Int):(List Int)×Int->Option (((List Int)×Int)⊕(((List Int)×Int×Bool)))
 | (c,a)=>
   br (decide (a<5)) (
   br (decide (0<=(wrap .i64 (b+(wrap .i64 (5*a)))))&&decide ((wrap .i64 (b+(wrap .i64 (5*a)))).toNat<25)) (
   (h[(wrap .i64 (b+(wrap .i64 (5*a)))).toNat]?).bind fun l=>
   br (decide (0<=(wrap .i64 (b+(wrap .i64 (5*a)))))&&decide ((wrap .i64 (b+(wrap .i64 (5*a)))).toNat<25)) (
   (e[(wrap .i64 (b+(wrap .i64 (5*a)))).toNat]?).bind fun d=>
   (yg l d).bind fun f=>
   br (decide (0<=(wrap .i64 (a+(wrap .i64 (5*((wrap .i64 ((wrap .i64 (2*b))+(wrap .i64 (3*a)))).tmod 5))))))&&decide ((wrap .i64 (a+(wrap .i64 (5*((wrap .i64 ((wrap .i64 (2*b))+(wrap .i64 (3*a)))).tmod 5))))).toNat<25)) (
   br (decide ((wrap .i64 (a+(wrap .i64 (5*((wrap .i64 ((wrap .i64 (2*b))+(wrap .i64 (3*a)))).tmod 5))))).toNat<c.length)) (
   some (.inl ((c.set ((wrap .i64 (a+(wrap .i64 (5*((wrap .i64 ((wrap .i64 (2*b))+(wrap .i64 (3*a)))).tmod 5))))).toNat) f),(wrap .i64 (a+1))))) none) none) none) none) (
   some (.inr (c,a,decide (a<5))))
abbrev tR (f d b c a e:List Int):List (Nat×Blk):=[(1000,⟨25,true,[ar .u64 f]⟩),(1001,⟨25,true,[ar .u64 d]⟩),(2001,⟨24,true,[ar .u64 b]⟩),(3001,⟨25,true,[ar .u64 c]⟩),(7001,⟨5,true,[ar .u64 a]⟩),(16001,⟨25,true,[ar .u64 e]⟩)]
theorem N7 {f d b c a i j}:LX tab ow (.close [23021]) sU (js f d b c a i j) (fun s=>⟨[(1,.ptr 1000 0 0 1),(2,.ptr 1001 0 0 1),(3,.ptr 2001 0 0 1),(4,.ptr 3001 0 0 1),(5,I i),(9,.ptr 16001 0 0 1),(10,I j),(11,I s.2)],tR f d b c a s.1⟩) (fun e=>(.exit 8,⟨[(1,.ptr 1000 0 0 1),(2,.ptr 1001 0 0 1),(3,.ptr 2001 0 0 1),(4,.ptr 3001 0 0 1),(5,I i),(9,.ptr 16001 0 0 1),(10,I j),(11,I e.2.1),(77,B e.2.2)],tR f d b c a e.1⟩)):=by
 refine lrX (fun s o h=> ?_)
 obtain ⟨_,_⟩:=s
 simp only [js] at h
 simp only [tR,sU]
 have d1:= @OA
 exact go2
def jx (f i d e c:List Int) (j:Int):(List Int)×Int->Option (((List Int)×Int)⊕(((List Int)×Int×Bool)))
 | (b,a)=>
   br (decide (a<5)) (
   (Loop (js f i d e c j a) (b,0)).bind fun h=>
   some (.inl (h.1,(wrap .i64 (a+1))))) (
   some (.inr (b,a,decide (a<5))))
abbrev tO (d e b c a f:List Int):List (Nat×Blk):=[(1000,⟨25,true,[ar .u64 d]⟩),(1001,⟨25,true,[ar .u64 e]⟩),(2001,⟨24,true,[ar .u64 b]⟩),(3001,⟨25,true,[ar .u64 c]⟩),(7001,⟨5,true,[ar .u64 a]⟩),(16001,⟨25,true,[ar .u64 f]⟩)]
theorem N9 {d f b c a i}:LX tab ow (.close [23021]) sd (jx d f b c a i) (fun s=>⟨[(1,.ptr 1000 0 0 1),(2,.ptr 1001 0 0 1),(3,.ptr 2001 0 0 1),(4,.ptr 3001 0 0 1),(5,I i),(9,.ptr 16001 0 0 1),(10,I s.2)],tO d f b c a s.1⟩) (fun e=>(.exit 6,⟨[(1,.ptr 1000 0 0 1),(2,.ptr 1001 0 0 1),(3,.ptr 2001 0 0 1),(4,.ptr 3001 0 0 1),(5,I i),(9,.ptr 16001 0 0 1),(10,I e.2.1),(73,B e.2.2)],tO d f b c a e.1⟩)):=by
 refine lrX (fun s o h=> ?_)
 obtain ⟨_,_⟩:=s
 simp only [jx] at h
 simp only [tO,sd]
 have d1:= @N7
 exact go2
def jv (i k m j d:List Int) (l b:Int):(List Int)×Int->Option (((List Int)×Int)⊕(((List Int)×Int×Bool)))
 | (c,a)=>
   br (decide (a<5)) (
   br (decide (0<=(wrap .i64 (b+(wrap .i64 (5*a)))))&&decide ((wrap .i64 (b+(wrap .i64 (5*a)))).toNat<25)) (
   (d[(wrap .i64 (b+(wrap .i64 (5*a)))).toNat]?).bind fun f=>
   br (decide (0<=(wrap .i64 (((wrap .i64 (b+1)).tmod 5)+(wrap .i64 (5*a)))))&&decide ((wrap .i64 (((wrap .i64 (b+1)).tmod 5)+(wrap .i64 (5*a)))).toNat<25)) (
   (d[(wrap .i64 (((wrap .i64 (b+1)).tmod 5)+(wrap .i64 (5*a)))).toNat]?).bind fun h=>
   br (decide (0<=(wrap .i64 (((wrap .i64 (b+2)).tmod 5)+(wrap .i64 (5*a)))))&&decide ((wrap .i64 (((wrap .i64 (b+2)).tmod 5)+(wrap .i64 (5*a)))).toNat<25)) (
   (d[(wrap .i64 (((wrap .i64 (b+2)).tmod 5)+(wrap .i64 (5*a)))).toNat]?).bind fun e=>
   br (decide (0<=(wrap .i64 (b+(wrap .i64 (5*a)))))&&decide ((wrap .i64 (b+(wrap .i64 (5*a)))).toNat<25)) (
   br (decide ((wrap .i64 (b+(wrap .i64 (5*a)))).toNat<c.length)) (
   some (.inl ((c.set ((wrap .i64 (b+(wrap .i64 (5*a)))).toNat) (tm .u64 f (dc .u64 (dz .u64 h) e))),(wrap .i64 (a+1))))) none) none) none) none) none) (
   some (.inr (c,a,decide (a<5))))
abbrev uj (a e f d c b:List Int):List (Nat×Blk):=[(1000,⟨25,true,[ar .u64 b]⟩),(1001,⟨25,true,[ar .u64 a]⟩),(2001,⟨24,true,[ar .u64 e]⟩),(3001,⟨25,true,[ar .u64 f]⟩),(7001,⟨5,true,[ar .u64 d]⟩),(16001,⟨25,true,[ar .u64 c]⟩)]
theorem Nq {a f j c b i d}:LX tab ow (.close []) sC (jv a f j c b i d) (fun s=>⟨[(1,.ptr 1000 0 0 1),(2,.ptr 1001 0 0 1),(3,.ptr 2001 0 0 1),(4,.ptr 3001 0 0 1),(5,I i),(9,.ptr 16001 0 0 1),(12,I d),(13,I s.2)],uj a f j c b s.1⟩) (fun e=>(.exit 12,⟨[(1,.ptr 1000 0 0 1),(2,.ptr 1001 0 0 1),(3,.ptr 2001 0 0 1),(4,.ptr 3001 0 0 1),(5,I i),(9,.ptr 16001 0 0 1),(12,I d),(13,I e.2.1),(108,B e.2.2)],uj a f j c b e.1⟩)):=by
 refine lrX (fun s o h=> ?_)
 obtain ⟨_,_⟩:=s
 simp only [jv] at h
 simp only [uj,sC]
 exact go2
def jw (i j h e d:List Int) (c:Int):(List Int)×Int->Option (((List Int)×Int)⊕(((List Int)×Int×Bool)))
 | (b,a)=>
   br (decide (a<5)) (
   (Loop (jv i j h e d c a) (b,0)).bind fun f=>
   some (.inl (f.1,(wrap .i64 (a+1))))) (
   some (.inr (b,a,decide (a<5))))
abbrev tE (d e c b a f:List Int):List (Nat×Blk):=[(1000,⟨25,true,[ar .u64 f]⟩),(1001,⟨25,true,[ar .u64 d]⟩),(2001,⟨24,true,[ar .u64 e]⟩),(3001,⟨25,true,[ar .u64 c]⟩),(7001,⟨5,true,[ar .u64 b]⟩),(16001,⟨25,true,[ar .u64 a]⟩)]
theorem MT {f i d c b a}:LX tab ow (.close []) s8 (jw f i d c b a) (fun s=>⟨[(1,.ptr 1000 0 0 1),(2,.ptr 1001 0 0 1),(3,.ptr 2001 0 0 1),(4,.ptr 3001 0 0 1),(5,I a),(9,.ptr 16001 0 0 1),(12,I s.2)],tE f i d c b s.1⟩) (fun e=>(.exit 10,⟨[(1,.ptr 1000 0 0 1),(2,.ptr 1001 0 0 1),(3,.ptr 2001 0 0 1),(4,.ptr 3001 0 0 1),(5,I a),(9,.ptr 16001 0 0 1),(12,I e.2.1),(104,B e.2.2)],tE f i d c b e.1⟩)):=by
 refine lrX (fun s o h=> ?_)
 obtain ⟨_,_⟩:=s
 simp only [jw] at h
 simp only [tE,s8]
 have d1:= @Nq
 exact go2
def jt (e b d:List Int):(List Int)×Int->Option (((List Int)×Int)⊕(((List Int)×Int×Bool)))
 | (m,t)=>
   br (decide (t<24)) (
   (Loop (jq m e b d t) ((nZ 5),0)).bind fun j=>
   (Loop (jz e b d j.1 t) (m,0)).bind fun c=>
   (Loop (jx c.1 e b d j.1 t) ((nZ 25),0)).bind fun f=>
   (Loop (jw e b d j.1 f.1 t) (c.1,0)).bind fun a=>
   (a.1[0]?).bind fun i=>
   br (decide (0<=t)&&decide (t.toNat<24)) (
   (b[t.toNat]?).bind fun h=>
   br (decide (0<a.1.length)) (
   some (.inl ((a.1.set 0 (tm .u64 i h)),(wrap .i64 (t+1))))) none) none) (
   some (.inr (m,t,decide (t<24))))
abbrev tA (c b a m:List Int):List (Nat×Blk):=[(1000,⟨25,true,[ar .u64 m]⟩),(1001,⟨25,true,[ar .u64 c]⟩),(2001,⟨24,true,[ar .u64 b]⟩),(3001,⟨25,true,[ar .u64 a]⟩)]
theorem MU {c b a}:LX tab ow (.close [7001,15013,16001,23021]) tC (jt c b a) (fun s=>⟨[(1,.ptr 1000 0 0 1),(2,.ptr 1001 0 0 1),(3,.ptr 2001 0 0 1),(4,.ptr 3001 0 0 1),(5,I s.2)],tA c b a s.1⟩) (fun e=>(.exit 0,⟨[(1,.ptr 1000 0 0 1),(2,.ptr 1001 0 0 1),(3,.ptr 2001 0 0 1),(4,.ptr 3001 0 0 1),(5,I e.2.1),(17,B e.2.2)],tA c b a e.1⟩)):=by
 refine lrX (fun s o h=> ?_)
 obtain ⟨_,_⟩:=s
 simp only [jt] at h
 simp only [tA,tC]
 have d1:= @Nj
 have d2:= @Mz
 have d3:= @N9
 have d4:= @MT
 exact go2
def sT (a:(List Int)):Option ((List Int)):=
 br (decide (a.length=25)) (
 (FT).bind fun d=>
 br (decide (d.length=24)) (
 (FH).bind fun c=>
 br (decide (c.length=25)) (
 (Loop (jt (nZ 25) d c) (a,0)).bind fun b=>
 br (decide (b.1.length=25)) (
 br (decide (b.1.length=25)) (
 br (decide (b.1.length=25)) (
 some b.1) none) none) none) none) none) none
theorem U1 {a r} (h:sT a=some r):Call tab ow 322 [.agg (ar .u64 a)] []=some (.agg (ar .u64 r),[]):=by
 rw [aj (af:=sK) rfl]
 unfold sT at h
 simp only [sK,H4]
 have d1:= @VM
 have d2:= @Wk
 have d3:= @MU
 exact go2
section
theorem a0k:mkR 2000 []=rws eU8 []:=rfl
attribute [local go_sem] a0k
theorem YK:mkR 6011 []=rws eU8 []:=rfl
attribute [local go_sem] YK
def nh (m:List Int) (a:Int):(List UInt8)×Int->Option (((List UInt8)×Int)⊕(((List UInt8)×Int×Bool)))
 | (l,i)=>
   br (decide (i<a)) (
   br (decide (0<=(wrap .i64 (i.tdiv 8)))&&decide ((wrap .i64 (i.tdiv 8)).toNat<25)) (
   (m[(wrap .i64 (i.tdiv 8)).toNat]?).bind fun x=>
   br (decide (0<=(wrap .u64 (wrap .i64 (8*(i.tmod 8)))))) (
   br (cP ((l++([(UInt8.ofInt (bY .u64 x (wrap .u64 (wrap .i64 (8*(i.tmod 8))))))]:List UInt8)).length) 1) (
   some (.inl ((l++([(UInt8.ofInt (bY .u64 x (wrap .u64 (wrap .i64 (8*(i.tmod 8))))))]:List UInt8)),(wrap .i64 (i+1))))) none) none) none) (
   some (.inr (l,i,decide (i<a))))
abbrev Bw (m:List Int) (l:List UInt8):List (Nat×Blk):=[(1000,⟨25,true,[ar .u64 m]⟩),(2000,⟨1,false,rws eU8 l⟩)]
theorem VK {m a}:LX tab ow (.close [6011,6012]) Jj (nh m a) (fun s=>⟨[(1,I a),(2,.ptr 1000 0 0 1),(5,.sl 2000 0 s.1.length),(6,I s.2)],Bw m s.1⟩) (fun e=>(.exit 0,⟨[(1,I a),(2,.ptr 1000 0 0 1),(5,.sl 2000 0 e.1.length),(6,I e.2.1),(10,B e.2.2)],Bw m e.1⟩)):=by
 refine lrX (fun s o h=> ?_)
 obtain ⟨_,_⟩:=s
 simp only [nh] at h
 simp only [Bw,Jj,J9]
 exact go2
def Cf (a:(List Int)) (n:Int):Option ((List UInt8)):=
 br (decide (a.length=25)) (
 (Loop (nh a n) (([]:List UInt8),0)).bind fun b=>
 some b.1) none
theorem a2X {a n r} (h:Cf a n=some r):Call tab ow 323 [.agg (ar .u64 a),I n] []=some (S r,[]):=by
 rw [aj (af:=AH) rfl]
 unfold Cf at h
 simp only [AH,G7]
 have d1:= @VK
 exact go2
end
section
theorem ZS:mkR 2002 []=rws eU8 []:=rfl
attribute [local go_sem] ZS
theorem a0b:mkR 4001 []=rws eU8 []:=rfl
attribute [local go_sem] a0b
def kO (a:List UInt8):(List UInt8)->Option (((List UInt8))⊕(((List UInt8)×Bool)))
 |l=>
  br ((((l.length:Nat):Int).tmod 136) !=0) (
  br (cP ((l++([(0:UInt8)]:List UInt8)).length) 1) (
  some (.inl (l++([(0:UInt8)]:List UInt8)))) none) (
  some (.inr (l,((((l.length:Nat):Int).tmod 136) !=0))))
abbrev Bc (a l:List UInt8):List (Nat×Blk):=[(2001,⟨1,false,rws eU8 l⟩),(2002,⟨1,false,rws eU8 a⟩)]
theorem Wc {a}:LX tab ow (.close [4001,4002]) BD (kO a) (fun s=>⟨[(3,.sl 2001 0 s.length)],Bc a s⟩) (fun e=>(.exit 0,⟨[(3,.sl 2001 0 e.1.length),(15,B e.2)],Bc a e.1⟩)):=by
 refine lrX (fun s o h=> ?_)
 simp only [kO] at h
 simp only [Bc,BD]
 exact go2
def np (f:List UInt8) (d:List Int) (h:List UInt8) (b:Int):(List Int)×Int->Option (((List Int)×Int)⊕(((List Int)×Int×Bool)))
 | (a,i)=>
   br (decide (i<25)) (
   br (decide (0<=i)&&decide (i.toNat<25)) (
   (a[i.toNat]?).bind fun e=>
   br (decide (0<=i)&&decide (i.toNat<25)) (
   (d[i.toNat]?).bind fun c=>
   br (decide (0<=i)&&decide (i.toNat<25)) (
   br (decide (i.toNat<a.length)) (
   some (.inl ((a.set i.toNat (tm .u64 e c)),(wrap .i64 (i+1))))) none) none) none) none) (
   some (.inr (a,i,decide (i<25))))
abbrev BA (a:List UInt8) (b c:List Int):List (Nat×Blk):=[(2002,⟨1,false,rws eU8 a⟩),(6001,⟨25,true,[ar .u64 c]⟩),(10007,⟨25,true,[ar .u64 b]⟩)]
theorem Uz {b d c a}:LX tab ow (.close []) zh (np b d c a) (fun s=>⟨[(3,sl eU8 c),(4,.ptr 6001 0 0 1),(5,I a),(6,.ptr 10007 0 0 1),(7,I s.2)],BA b d s.1⟩) (fun e=>(.exit 4,⟨[(3,sl eU8 c),(4,.ptr 6001 0 0 1),(5,I a),(6,.ptr 10007 0 0 1),(7,I e.2.1),(42,B e.2.2)],BA b d e.1⟩)):=by
 refine lrX (fun s o h=> ?_)
 obtain ⟨_,_⟩:=s
 simp only [np] at h
 simp only [BA,zh]
 exact go2
def nr (f d:List UInt8):(List Int)×Int->Option (((List Int)×Int)⊕(((List Int)×Int×Bool)))
 | (m,a)=>
   br (decide (a<((d.length:Nat):Int))) (
   (lh d a (wrap .i64 (a+136))).bind fun y=>
   (yR y).bind fun e=>
   br (decide (e.length=25)) (
   (Loop (np f e d a) (m,0)).bind fun b=>
   br (decide (b.1.length=25)) (
   (sT b.1).bind fun c=>
   br (decide (c.length=25)&&decide (b.1.length=25)) (
   some (.inl (c,(wrap .i64 (a+136))))) none) none) none) (
   some (.inr (m,a,decide (a<((d.length:Nat):Int)))))
abbrev vf (a:List UInt8) (m:List Int):List (Nat×Blk):=[(2002,⟨1,false,rws eU8 a⟩),(6001,⟨25,true,[ar .u64 m]⟩)]
theorem WF {a b}:LX tab ow (.close [10006,10007,15001,2001]) Bh (nr a b) (fun s=>⟨[(3,sl eU8 b),(4,.ptr 6001 0 0 1),(5,I s.2)],vf a s.1⟩) (fun e=>(.exit 2,⟨[(3,sl eU8 b),(4,.ptr 6001 0 0 1),(5,I e.2.1),(31,B e.2.2)],vf a e.1⟩)):=by
 refine lrX (fun s o h=> ?_)
 obtain ⟨_,_⟩:=s
 simp only [nr] at h
 simp only [vf,Bh]
 have d1:= @Y2
 have d2:= @Uz
 have d3:= @U1
 exact go2
def lx (b:(List UInt8)):Option ((List UInt8)):=
 br (cP b.length 1) (
 br (cP ((b++([(1:UInt8)]:List UInt8)).length) 1) (
 (Loop (kO ([(1:UInt8)]:List UInt8)) (b++([(1:UInt8)]:List UInt8))).bind fun a=>
 br (decide (0<=(wrap .i64 (((a.1.length:Nat):Int)-1)))) (
 br (decide ((wrap .i64 (((a.1.length:Nat):Int)-1)).toNat<a.1.length)) (
 (a.1[(wrap .i64 (((a.1.length:Nat):Int)-1)).toNat]?).bind fun x=>
 br (decide (0<=(wrap .i64 (((a.1.length:Nat):Int)-1)))) (
 br (decide ((wrap .i64 (((a.1.length:Nat):Int)-1)).toNat<a.1.length)) (
 (a.1[(wrap .i64 (((a.1.length:Nat):Int)-1)).toNat]?).bind fun e=>
 (Loop (nr ([(1:UInt8)]:List UInt8) (a.1.set ((wrap .i64 (((a.1.length:Nat):Int)-1)).toNat) (UInt8.ofInt (B7 .u8 (x.toNat:Int) 128)))) ((nZ 25),0)).bind fun c=>
 br (decide (c.1.length=25)) (
 (Cf c.1 32).bind fun d=>
 some d) none) none) none) none) none) none) none
theorem rT {b r} (h:lx b=some r):Call tab ow 218 [S b] []=some (S r,[]):=by
 rw [aj (af:=zY) rfl]
 unfold lx at h
 simp only [zY,Ou]
 have d1:= @Wc
 have d2:= @WF
 simp only [vf] at d2
 have d3:= @a2X
 exact go2
end
section
theorem U6:mkR 2000 []=rws eU8 []:=rfl
attribute [local go_sem] U6
theorem Sz:mkR 6007 []=rws eU8 []:=rfl
attribute [local go_sem] Sz
def wO (a:Int):(List UInt8)×Int->Option (((List UInt8)×Int)⊕(((List UInt8)×Int×Bool)))
 | (l,i)=>
   br (decide (i>=0)) (
   br (decide (0<=(wrap .u64 (wrap .i64 (8*i))))) (
   br (cP ((l++([(UInt8.ofInt (bY .i64 a (wrap .u64 (wrap .i64 (8*i)))))]:List UInt8)).length) 1) (
   some (.inl ((l++([(UInt8.ofInt (bY .i64 a (wrap .u64 (wrap .i64 (8*i)))))]:List UInt8)),(wrap .i64 (i-1))))) none) none) (
   some (.inr (l,i,decide (i>=0))))
theorem Pm {a}:LX tab ow (.close [6007,6008]) EO (wO a) (fun s=>⟨[(0,I a),(5,.sl 2000 0 s.1.length),(6,I s.2)],[(2000,⟨1,false,rws eU8 s.1⟩)]⟩) (fun e=>(.exit 0,⟨[(0,I a),(5,.sl 2000 0 e.1.length),(6,I e.2.1),(11,B e.2.2)],[(2000,⟨1,false,rws eU8 e.1⟩)]⟩)):=by
 refine lrX (fun s o h=> ?_)
 obtain ⟨_,_⟩:=s
 simp only [wO] at h
 simp only [EO,Es]
 exact go2
def g9 (n a:Int):Option ((List UInt8)):=
 (Loop (wO n) (([]:List UInt8),(wrap .i64 (a-1)))).bind fun b=>
 some b.1
theorem jm {n a r} (h:g9 n a=some r):Call tab ow 213 [I n,I a] []=some (sl eU8 r,[]):=by
 rw [aj (af:=uX) rfl]
 unfold g9 at h
 simp only [uX,Bg]
 have d1:= @Pm
 exact go2
end
def kz (s:Source) (t:(List UInt8)):Option (Source):=
 br (cP (s.State.length+(([97,98,115,111,114,98]:List UInt8)).length) 1) (
 (g9 ((t.length:Nat):Int) 4).bind fun b=>
 br (cP ((s.State++(([97,98,115,111,114,98]:List UInt8))).length+b.length) 1) (
 br (cP (((s.State++(([97,98,115,111,114,98]:List UInt8)))++b).length+t.length) 1) (
 (lx (((s.State++(([97,98,115,111,114,98]:List UInt8)))++b)++t)).bind fun a=>
 some (Source.mk s.Script s.At a 0)) none) none) none
theorem qw {s t r} (h:kz s t=some r):Call tab ow 191 [.agg [sl eExt s.Script,I s.At,S s.State,I s.Count],S t] []=some (.agg [sl eExt r.Script,I r.At,S r.State,I r.Count],[]):=by
 rw [aj (af:=vj) rfl]
 unfold kz at h
 simp only [vj,IN]
 have d1:= @jm
 have d2:= @rT
 exact go2
def lM (a:List UInt8):Int×Int->Option ((Int×Int)⊕((Int×Int×Bool)))
 | (n,i)=>
   br (decide (i<8)) (
   (atL a i).bind fun c=>
   some (.inl (((wrap .i64 ((wrap .i64 (n*256))+(wrap .i64 (c.toNat:Int)))).tmod 2130706433),(wrap .i64 (i+1))))) (
   some (.inr (n,i,decide (i<8))))
theorem TG {a}:LX tab ow (.close []) Gm (lM a) (fun s=>⟨[(0,S a),(3,I s.1),(4,I s.2)],[]⟩) (fun e=>(.exit 0,⟨[(0,S a),(3,I e.1),(4,I e.2.1),(6,B e.2.2)],[]⟩)):=by
 refine lrX (fun s o h=> ?_)
 obtain ⟨_,_⟩:=s
 simp only [lM] at h
 simp only [Gm,Gx]
 exact go2
def tS (t:(List UInt8)):Option (Int):=
 (Loop (lM t) (0,0)).bind fun a=>
 some a.1
theorem a0S {t r} (h:tS t=some r):Call tab ow 304 [S t] []=some (I r,[]):=by
 rw [aj (af:=xG) rfl]
 unfold tS at h
 simp only [xG,CX]
 have d1:= @TG
 exact go2
def rM (s:Source):Option (Source×Ext):=
 br (decide (((s.Script.length:Nat):Int)>0)) (
 br (decide (((s.Script.length:Nat):Int)≠0)) (
 (atL s.Script (s.At.tmod ((s.Script.length:Nat):Int))).bind fun x=>
 some ((Source.mk s.Script (wrap .i64 (s.At+1)) s.State s.Count),x)) none) (
 br (cP (s.State.length+(([100,114,97,119]:List UInt8)).length) 1) (
 (g9 s.Count 4).bind fun d=>
 br (cP ((s.State++(([100,114,97,119]:List UInt8))).length+d.length) 1) (
 (lx ((s.State++(([100,114,97,119]:List UInt8)))++d)).bind fun a=>
 (lh a 0 8).bind fun y=>
 (tS y).bind fun c=>
 (lh a 8 16).bind fun e=>
 (tS e).bind fun b=>
 some ((Source.mk s.Script s.At s.State (wrap .i64 (s.Count+1))),(Ext.mk c b))) none) none)
theorem G5 {s r} (h:rM s=some r):Call tab ow 192 [.agg [sl eExt s.Script,I s.At,S s.State,I s.Count]] []=some (.tup [.agg [sl eExt r.1.Script,I r.1.At,S r.1.State,I r.1.Count],.agg [I r.2.A,I r.2.B]],[]):=by
 rw [aj (af:=Ah) rfl]
 unfold rM at h
 simp only [Ah,Og]
 have d1:= @jm
 have d2:= @rT
 have d3:= @a0S
 exact go2
def jJ (n b a:Int):Option (Bool):=
 br (decide (b<=n)) (
 some (decide (n<=a))) (
 some false)
theorem zG {n b a r} (h:jJ n b a=some r):Call tab ow 68 [I n,I b,I a] []=some (B r,[]):=by
 rw [aj (af:=a00) rfl]
 unfold jJ at h
 simp only [a00,b4h]
 exact go2
def rJ (a:Int):Option (Bool):=
 (jJ a 0 2130706432).bind fun b=>
 some b
theorem GY {a r} (h:rJ a=some r):Call tab ow 132 [I a] []=some (B r,[]):=by
 rw [aj (af:=zV) rfl]
 unfold rJ at h
 simp only [zV,NU]
 have d1:= @zG
 exact go2
def uk (a:Ext):Option (Bool):=
 (rJ a.A).bind fun c=>
 br c (
 (rJ a.B).bind fun b=>
 some b) (
 some false)
theorem NF {a r} (h:uk a=some r):Call tab ow 72 [.agg [I a.A,I a.B]] []=some (B r,[]):=by
 rw [aj (af:=HP) rfl]
 unfold uk at h
 simp only [HP,Xt]
 have d1:= @GY
 exact go2
def j2 (x:Ext):Option (Bool):=
 (uk x).bind fun a=>
 some (!a)
theorem Fk {x r} (h:j2 x=some r):Call tab ow 167 [.agg [I x.A,I x.B],.ptr 0 0 0 1] [⟨1,true,[[.fn 72 []]]⟩]=some (B r,[⟨1,true,[[.fn 72 []]]⟩]):=by
 rw [aj (af:=qK) rfl]
 unfold j2 at h
 simp only [qK,EZ]
 have d1:= @NF
 exact go2
def cn (c:List Ext) (t:Int):Int->Option ((Int)⊕(Int⊕(Int×Bool)))
 |a=>
  br (decide (a<t)) (
  (atL c a).bind fun x=>
  (j2 x).bind fun b=>
  br b (
  some (.inr (.inl a))) (
  some (.inl (wrap .i64 (a+1))))) (
  some (.inr (.inr (a,decide (a<t)))))
theorem ju {a t}:LX tab ow (.close [5005]) k8 (cn a t) (fun s=>⟨[(0,sl eExt a),(1,.fn 167 [.ptr 0 0 0 1]),(7,I t),(8,I s)],[(0,⟨1,true,[[.fn 72 []]]⟩)]⟩) (alt (fun e=>((.ret,⟨[(4,I e)],[(0,⟨1,true,[[.fn 72 []]]⟩)]⟩):bT×St)) (fun e=>(.exit 0,⟨[(0,sl eExt a),(1,.fn 167 [.ptr 0 0 0 1]),(7,I t),(8,I e.1),(9,B e.2)],[(0,⟨1,true,[[.fn 72 []]]⟩)]⟩))):=by
 refine lrX (fun s o h=> ?_)
 simp only [cn] at h
 simp only [k8,jZ]
 have d1:= @Fk
 exact go2
def cF (s:(List Ext)):Option (Int):=
 (Loop (cn s ((s.length:Nat):Int)) 0).bind (alt (fun a=>
 some a) (fun b=>
 some (-1:Int)))
theorem jY {s r} (h:cF s=some r):Call tab ow 283 [sl eExt s,.fn 167 [.ptr 0 0 0 1]] [⟨1,true,[[.fn 72 []]]⟩]=some (I r,[⟨1,true,[[.fn 72 []]]⟩]):=by
 rw [aj (af:=eJ) rfl]
 unfold cF at h
 simp only [eJ,hJ]
 have d1:= @ju
 exact go2
def cu (s:(List Ext)):Option (Bool):=
 (cF s).bind fun a=>
 some (decide (a>=0))
theorem ja {s r} (h:cu s=some r):Call tab ow 166 [sl eExt s,.fn 167 [.ptr 0 0 0 1]] [⟨1,true,[[.fn 72 []]]⟩]=some (B r,[⟨1,true,[[.fn 72 []]]⟩]):=by
 rw [aj (af:=dS) rfl]
 unfold cu at h
 simp only [dS,jM]
 have d1:= @jY
 exact go2
def gr (a:(List Ext)):Option (Bool):=
 (cu a).bind fun b=>
 some (!b)
theorem pz {a r} (h:gr a=some r):Call tab ow 71 [.fn 72 [],sl eExt a] []=some (B r,[]):=by
 rw [aj (af:=ul) rfl]
 unfold gr at h
 simp only [ul,Jq]
 have d1:= @ja
 exact go2
def i6 (l:List Ext):Option (List Ext):=br (cP l.length 16) (some l) none
theorem xw (x:Ext) (l:List Ext) (a:cP (x::l).length 16=true):Call (P4 73 bH) U2 73 [sl eExt (x::l)] []=some (.sl 0 0 (x::l).length,[⟨2,false,rws eExt (x::l)⟩]):=by
 rw [aj (af:=bH) (MJ _ _)]
 rw [ah] at a
 simp+decide only [bH,jb,fun k=>mk0 eExt k,a57,go_sem,reduceIte,Nat.reduceAdd,a]
theorem xq {l r:List Ext} (h:i6 l=some r):Call tab ow 73 [sl eExt l] []=some (.sl 0 0 r.length,[⟨2,false,rws eExt r⟩]):=by
 unfold i6 at h
 obtain ⟨hb,h⟩:=brg h
 cases h
 rw [TD (g:=ZB 73 bH 2) rfl]
 cases l with
 |a=>rfl
 |cons x l=>exact xw x l hb
def ni (m:List Int) (t:List UInt8) (c:Int):(List Int)×Int->Option (((List Int)×Int)⊕(((List Int)×Int×Bool)))
 | (b,a)=>
   br (decide (a<c)) (
   (atL t a).bind fun x=>
   br (decide (0<=(wrap .i64 (a.tdiv 8)))&&decide ((wrap .i64 (a.tdiv 8)).toNat<25)) (
   (b[(wrap .i64 (a.tdiv 8)).toNat]?).bind fun d=>
   br (decide (0<=(wrap .i64 (8*(a.tmod 8))))) (
   br (decide (0<=(wrap .i64 (a.tdiv 8)))&&decide ((wrap .i64 (a.tdiv 8)).toNat<25)) (
   br (decide ((wrap .i64 (a.tdiv 8)).toNat<b.length)) (
   some (.inl ((b.set ((wrap .i64 (a.tdiv 8)).toNat) (B7 .u64 d (bG .u64 (wrap .u64 (x.toNat:Int)) (wrap .i64 (8*(a.tmod 8)))))),(wrap .i64 (a+1))))) none) none) none) none) (
   some (.inr (b,a,decide (a<c))))
abbrev Ba (m a:List Int):List (Nat×Blk):=[(1000,⟨25,true,[ar .u64 m]⟩),(2001,⟨25,true,[ar .u64 a]⟩)]
theorem V0 {m t a}:LX tab ow (.close []) BF (ni m t a) (fun s=>⟨[(2,.ptr 1000 0 0 1),(3,.ptr 2001 0 0 1),(7,sl eU8 t),(8,I a),(9,I s.2)],Ba m s.1⟩) (fun e=>(.exit 0,⟨[(2,.ptr 1000 0 0 1),(3,.ptr 2001 0 0 1),(7,sl eU8 t),(8,I a),(9,I e.2.1),(10,B e.2.2)],Ba m e.1⟩)):=by
 refine lrX (fun s o h=> ?_)
 obtain ⟨_,_⟩:=s
 simp only [ni] at h
 simp only [Ba,BF]
 exact go2
def Cg (a:(List UInt8)):Option ((List Int)):=
 (Loop (ni (nZ 25) a ((a.length:Nat):Int)) ((nZ 25),0)).bind fun b=>
 br (decide (b.1.length=25)) (
 br (decide (b.1.length=25)) (
 br (decide (b.1.length=25)) (
 some b.1) none) none) none
theorem a2H {a r} (h:Cg a=some r):Call tab ow 344 [sl eU8 a] []=some (.agg (ar .u64 r),[]):=by
 rw [aj (af:=As) rfl]
 unfold Cg at h
 simp only [As,O7]
 have d1:= @V0
 exact go2
def fk (x k:Int):Option (Int):=
 br (decide (0<=(dc .u64 (wrap .u64 k) 63))) (
 br (decide (0<=(wrap .u64 (64-(dc .u64 (wrap .u64 k) 63))))) (
 some (B7 .u64 (bG .u64 x (dc .u64 (wrap .u64 k) 63)) (bY .u64 x (wrap .u64 (64-(dc .u64 (wrap .u64 k) 63)))))) none) none
theorem B2 {x k r} (h:fk x k=some r):Call tab ow 376 [.lit (.int .u64 x),I k] []=some (.lit (.int .u64 r),[]):=by
 rw [aj (af:=iu) rfl]
 unfold fk at h
 simp only [iu,qh]
 exact go2
def gI (d f j l:List Int) (k:Int) (i:List Int) (h:Int):(List Int)×Int->Option (((List Int)×Int)⊕(((List Int)×Int×Bool)))
 | (b,a)=>
   br (decide (a<25)) (
   br (decide (0<=a)&&decide (a.toNat<25)) (
   (d[a.toNat]?).bind fun c=>
   br (decide (0<=(a.tmod 5))&&decide ((a.tmod 5).toNat<5)) (
   (b[(a.tmod 5).toNat]?).bind fun e=>
   br (decide (0<=(a.tmod 5))&&decide ((a.tmod 5).toNat<5)) (
   br (decide ((a.tmod 5).toNat<b.length)) (
   some (.inl ((b.set ((a.tmod 5).toNat) (tm .u64 e c)),(wrap .i64 (a+1))))) none) none) none) none) (
   some (.inr (b,a,decide (a<25))))
abbrev pQ (d a b e c:List Int):List (Nat×Blk):=[(0,⟨25,true,[ar .u64 d]⟩),(1001,⟨25,true,[ar .i64 a]⟩),(2001,⟨24,true,[ar .u64 b]⟩),(6002,⟨5,true,[ar .u64 c]⟩),(6003,⟨25,true,[ar .u64 e]⟩)]
theorem HY {i a d j f c b}:LX tab ow (.close []) pK (gI i a d j f c b) (fun s=>⟨[(0,.ptr 0 0 0 1),(2,.ptr 1001 0 0 1),(5,.lit (.int .u64 f)),(6,.ptr 6002 0 0 1),(7,.ptr 6003 0 0 1),(20,.agg (ar .u64 c)),(21,I b),(26,.ptr 0 0 0 1),(27,I s.2)],pQ i a d j s.1⟩) (fun e=>(.exit 2,⟨[(0,.ptr 0 0 0 1),(2,.ptr 1001 0 0 1),(5,.lit (.int .u64 f)),(6,.ptr 6002 0 0 1),(7,.ptr 6003 0 0 1),(20,.agg (ar .u64 c)),(21,I b),(26,.ptr 0 0 0 1),(27,I e.2.1),(28,B e.2.2)],pQ i a d j e.1⟩)):=by
 refine lrX (fun s o h=> ?_)
 obtain ⟨_,_⟩:=s
 simp only [gI] at h
 simp only [pQ,pK]
 exact go2
def gJ (d f h c:List Int) (n:Int) (o:List Int) (p:Int):(List Int)×Int->Option (((List Int)×Int)⊕(((List Int)×Int×Bool)))
 | (b,a)=>
   br (decide (a<25)) (
   br (decide (0<=a)&&decide (a.toNat<25)) (
   (d[a.toNat]?).bind fun l=>
   br (decide (0<=((wrap .i64 ((a.tmod 5)+4)).tmod 5))&&decide (((wrap .i64 ((a.tmod 5)+4)).tmod 5).toNat<5)) (
   (c[((wrap .i64 ((a.tmod 5)+4)).tmod 5).toNat]?).bind fun k=>
   br (decide (0<=((wrap .i64 ((a.tmod 5)+1)).tmod 5))&&decide (((wrap .i64 ((a.tmod 5)+1)).tmod 5).toNat<5)) (
   (c[((wrap .i64 ((a.tmod 5)+1)).tmod 5).toNat]?).bind fun j=>
   (fk j 1).bind fun m=>
   br (decide (0<=a)&&decide (a.toNat<25)) (
   (f[a.toNat]?).bind fun i=>
   (fk (tm .u64 l (tm .u64 k m)) i).bind fun e=>
   br (decide (0<=(wrap .i64 ((wrap .i64 (a.tdiv 5))+(wrap .i64 (5*((wrap .i64 ((wrap .i64 (2*(a.tmod 5)))+(wrap .i64 (3*(wrap .i64 (a.tdiv 5)))))).tmod 5))))))&&decide ((wrap .i64 ((wrap .i64 (a.tdiv 5))+(wrap .i64 (5*((wrap .i64 ((wrap .i64 (2*(a.tmod 5)))+(wrap .i64 (3*(wrap .i64 (a.tdiv 5)))))).tmod 5))))).toNat<25)) (
   br (decide ((wrap .i64 ((wrap .i64 (a.tdiv 5))+(wrap .i64 (5*((wrap .i64 ((wrap .i64 (2*(a.tmod 5)))+(wrap .i64 (3*(wrap .i64 (a.tdiv 5)))))).tmod 5))))).toNat<b.length)) (
   some (.inl ((b.set ((wrap .i64 ((wrap .i64 (a.tdiv 5))+(wrap .i64 (5*((wrap .i64 ((wrap .i64 (2*(a.tmod 5)))+(wrap .i64 (3*(wrap .i64 (a.tdiv 5)))))).tmod 5))))).toNat) e),(wrap .i64 (a+1))))) none) none) none) none) none) none) (
   some (.inr (b,a,decide (a<25))))
abbrev pv (b d a e c:List Int):List (Nat×Blk):=[(0,⟨25,true,[ar .u64 b]⟩),(1001,⟨25,true,[ar .i64 d]⟩),(2001,⟨24,true,[ar .u64 a]⟩),(6002,⟨5,true,[ar .u64 e]⟩),(6003,⟨25,true,[ar .u64 c]⟩)]
theorem Ie {b c a d f i j}:LX tab ow (.close [16011,17013]) oF (gJ b c a d f i j) (fun s=>⟨[(0,.ptr 0 0 0 1),(2,.ptr 1001 0 0 1),(5,.lit (.int .u64 f)),(6,.ptr 6002 0 0 1),(7,.ptr 6003 0 0 1),(20,.agg (ar .u64 i)),(21,I j),(41,.ptr 0 0 0 1),(42,I s.2)],pv b c a d s.1⟩) (fun e=>(.exit 4,⟨[(0,.ptr 0 0 0 1),(2,.ptr 1001 0 0 1),(5,.lit (.int .u64 f)),(6,.ptr 6002 0 0 1),(7,.ptr 6003 0 0 1),(20,.agg (ar .u64 i)),(21,I j),(41,.ptr 0 0 0 1),(42,I e.2.1),(43,B e.2.2)],pv b c a d e.1⟩)):=by
 refine lrX (fun s o h=> ?_)
 obtain ⟨_,_⟩:=s
 simp only [gJ] at h
 simp only [pv,oF]
 have d1:= @B2
 exact go2
def gL (m h j c:List Int) (f:Int) (i:List Int) (l:Int) (e:List Int):(List Int)×Int->Option (((List Int)×Int)⊕(((List Int)×Int×Bool)))
 | (b,a)=>
   br (decide (a<25)) (
   br (decide (0<=a)&&decide (a.toNat<25)) (
   (e[a.toNat]?).bind fun k=>
   br (decide (0<=(wrap .i64 ((wrap .i64 (a-(a.tmod 5)))+((wrap .i64 ((a.tmod 5)+2)).tmod 5))))&&decide ((wrap .i64 ((wrap .i64 (a-(a.tmod 5)))+((wrap .i64 ((a.tmod 5)+2)).tmod 5))).toNat<25)) (
   (c[(wrap .i64 ((wrap .i64 (a-(a.tmod 5)))+((wrap .i64 ((a.tmod 5)+2)).tmod 5))).toNat]?).bind fun n=>
   br (decide (0<=(wrap .i64 ((wrap .i64 (a-(a.tmod 5)))+((wrap .i64 ((a.tmod 5)+1)).tmod 5))))&&decide ((wrap .i64 ((wrap .i64 (a-(a.tmod 5)))+((wrap .i64 ((a.tmod 5)+1)).tmod 5))).toNat<25)) (
   (c[(wrap .i64 ((wrap .i64 (a-(a.tmod 5)))+((wrap .i64 ((a.tmod 5)+1)).tmod 5))).toNat]?).bind fun d=>
   br (decide (0<=a)&&decide (a.toNat<25)) (
   br (decide (a.toNat<b.length)) (
   some (.inl ((b.set a.toNat (tm .u64 k (Ra .u64 n d))),(wrap .i64 (a+1))))) none) none) none) none) none) (
   some (.inr (b,a,decide (a<25))))
abbrev pP (e b c a d:List Int):List (Nat×Blk):=[(0,⟨25,true,[ar .u64 d]⟩),(1001,⟨25,true,[ar .i64 e]⟩),(2001,⟨24,true,[ar .u64 b]⟩),(6002,⟨5,true,[ar .u64 c]⟩),(6003,⟨25,true,[ar .u64 a]⟩)]
theorem HU {j c f a b d k i}:LX tab ow (.close []) o4 (gL j c f a b d k i) (fun s=>⟨[(0,.ptr 0 0 0 1),(2,.ptr 1001 0 0 1),(5,.lit (.int .u64 b)),(7,.ptr 6003 0 0 1),(20,.agg (ar .u64 d)),(21,I k),(82,.agg (ar .u64 i)),(83,I s.2)],pP j c f a s.1⟩) (fun e=>(.exit 6,⟨[(0,.ptr 0 0 0 1),(2,.ptr 1001 0 0 1),(5,.lit (.int .u64 b)),(7,.ptr 6003 0 0 1),(20,.agg (ar .u64 d)),(21,I k),(82,.agg (ar .u64 i)),(83,I e.2.1),(84,B e.2.2)],pP j c f a e.1⟩)):=by
 refine lrX (fun s o h=> ?_)
 obtain ⟨_,_⟩:=s
 simp only [gL] at h
 simp only [pP,o4]
 exact go2
def gM (h f t:List Int):(List Int)×Int->Option (((List Int)×Int)⊕(((List Int)×Int×Bool)))
 | (d,a)=>
   br (decide (a<24)) (
   br (decide (0<=a)&&decide (a.toNat<24)) (
   (t[a.toNat]?).bind fun x=>
   (Loop (gI d h f (nZ 25) x t a) ((nZ 5),0)).bind fun i=>
   (Loop (gJ d h f i.1 x t a) ((nZ 25),0)).bind fun c=>
   br (decide (c.1.length=25)) (
   (Loop (gL h f i.1 c.1 x t a c.1) (d,0)).bind fun b=>
   (b.1[0]?).bind fun e=>
   br (decide (0<b.1.length)) (
   some (.inl ((b.1.set 0 (tm .u64 e x)),(wrap .i64 (a+1))))) none) none) none) (
   some (.inr (d,a,decide (a<24))))
abbrev pG (b a c:List Int):List (Nat×Blk):=[(0,⟨25,true,[ar .u64 c]⟩),(1001,⟨25,true,[ar .i64 b]⟩),(2001,⟨24,true,[ar .u64 a]⟩)]
theorem Ia {b a t}:LX tab ow (.close [6002,6003,16011,17013]) pA (gM b a t) (fun s=>⟨[(0,.ptr 0 0 0 1),(2,.ptr 1001 0 0 1),(20,.agg (ar .u64 t)),(21,I s.2)],pG b a s.1⟩) (fun e=>(.exit 0,⟨[(0,.ptr 0 0 0 1),(2,.ptr 1001 0 0 1),(20,.agg (ar .u64 t)),(21,I e.2.1),(22,B e.2.2)],pG b a e.1⟩)):=by
 refine lrX (fun s o h=> ?_)
 obtain ⟨_,_⟩:=s
 simp only [gM] at h
 simp only [pG,pA]
 have d1:= @HY
 have d2:= @Ie
 have d3:= @HU
 exact go2
def mQ (m:List Int):Option ((List Int)):=
 (Loop (gM ([0,1,62,28,27,36,44,6,55,20,3,10,43,25,39,41,45,15,21,8,18,2,61,56,14]:List Int) ([1,32898,9223372036854808714,9223372039002292224,32907,2147483649,9223372039002292353,9223372036854808585,138,136,2147516425,2147483658,2147516555,9223372036854775947,9223372036854808713,9223372036854808579,9223372036854808578,9223372036854775936,32778,9223372039002259466,9223372039002292353,9223372036854808704,2147483649,9223372039002292232]:List Int) ([1,32898,9223372036854808714,9223372039002292224,32907,2147483649,9223372039002292353,9223372036854808585,138,136,2147516425,2147483658,2147516555,9223372036854775947,9223372036854808713,9223372036854808579,9223372036854808578,9223372036854775936,32778,9223372039002259466,9223372039002292353,9223372036854808704,2147483649,9223372039002292232]:List Int)) (m,0)).bind fun a=>
 some a.1
theorem Mc {m r} (h:mQ m=some r):Call tab ow 345 [.ptr 0 0 0 1] [⟨25,true,[ar .u64 m]⟩]=some (.tup [],[⟨25,true,[ar .u64 r]⟩]):=by
 rw [aj (af:=nS) rfl]
 unfold mQ at h
 simp only [nS,zZ]
 have d1:= @Ia
 exact go2
end
end Go.AI.Fn
set_option linter.unusedVariables false
set_option linter.unusedSimpArgs false
set_option maxRecDepth 100000
set_option maxHeartbeats 1000000
namespace Go.AI.Fn
noncomputable section
open IntKind (wrap)
section
theorem Pg:mkR 2000 []=rws eU8 []:=rfl
attribute [local go_sem] Pg
theorem PK:mkR 6012 []=rws eU8 []:=rfl
attribute [local go_sem] PK
def jy (a:List Int):(List UInt8)×Int->Option (((List UInt8)×Int)⊕(((List UInt8)×Int×Bool)))
 | (l,t)=>
   br (decide (t<200)) (
   br (decide (0<=(wrap .i64 (t.tdiv 8)))&&decide ((wrap .i64 (t.tdiv 8)).toNat<25)) (
   (a[(wrap .i64 (t.tdiv 8)).toNat]?).bind fun x=>
   br (decide (0<=(wrap .i64 (8*(t.tmod 8))))) (
   br (cP ((l++([(UInt8.ofInt (bY .u64 x (wrap .i64 (8*(t.tmod 8)))))]:List UInt8)).length) 1) (
   some (.inl ((l++([(UInt8.ofInt (bY .u64 x (wrap .i64 (8*(t.tmod 8)))))]:List UInt8)),(wrap .i64 (t+1))))) none) none) none) (
   some (.inr (l,t,decide (t<200))))
abbrev tL (a:List Int) (l:List UInt8):List (Nat×Blk):=[(0,⟨25,true,[ar .u64 a]⟩),(2000,⟨1,false,rws eU8 l⟩)]
theorem MX {a}:LX tab ow (.close [6012,6013]) Ce (jy a) (fun s=>⟨[(0,.ptr 0 0 0 1),(3,.sl 2000 0 s.1.length),(6,I s.2)],tL a s.1⟩) (fun e=>(.exit 0,⟨[(0,.ptr 0 0 0 1),(3,.sl 2000 0 e.1.length),(6,I e.2.1),(7,B e.2.2)],tL a e.1⟩)):=by
 refine lrX (fun s o h=> ?_)
 obtain ⟨_,_⟩:=s
 simp only [jy] at h
 simp only [tL,Ce,Ct]
 exact go2
def sN (m:List Int):Option ((List UInt8)×(List Int)):=
 (Loop (jy m) (([]:List UInt8),0)).bind fun a=>
 some (a.1,m)
theorem Tl {m r} (h:sN m=some r):Call tab ow 346 [.ptr 0 0 0 1] [⟨25,true,[ar .u64 m]⟩]=some (sl eU8 r.1,[⟨25,true,[ar .u64 r.2]⟩]):=by
 rw [aj (af:=sZ) rfl]
 unfold sN at h
 simp only [sZ,yU]
 have d1:= @MX
 exact go2
end
section
theorem a4S:mkR 2000 []=rws eU8 []:=rfl
attribute [local go_sem] a4S
theorem a5g:mkR 8001 []=rws eU8 []:=rfl
attribute [local go_sem] a5g
theorem a2k:mkR 10001 []=rws eU8 []:=rfl
attribute [local go_sem] a2k
def oK (t:List (List UInt8)) (b:Int):(List UInt8)×Int->Option (((List UInt8)×Int)⊕(((List UInt8)×Int×Bool)))
 | (l,a)=>
   br (decide (a<b)) (
   (atL t a).bind fun x=>
   br (cP ((l++x).length) 1) (
   some (.inl ((l++x),(wrap .i64 (a+1))))) none) (
   some (.inr (l,a,decide (a<b))))
theorem Yy {t a}:LX tab ow (.close [6002]) DF (oK t a) (fun s=>⟨[(3,.sl 2000 0 s.1.length),(10,sl (eL eU8) t),(11,I a),(12,I s.2)],[(2000,⟨1,false,rws eU8 s.1⟩)]⟩) (fun e=>(.exit 0,⟨[(3,.sl 2000 0 e.1.length),(10,sl (eL eU8) t),(11,I a),(12,I e.2.1),(13,B e.2.2)],[(2000,⟨1,false,rws eU8 e.1⟩)]⟩)):=by
 refine lrX (fun s o h=> ?_)
 obtain ⟨_,_⟩:=s
 simp only [oK] at h
 simp only [DF]
 exact go2
def mI (b:List UInt8):(List UInt8)->Option (((List UInt8))⊕(((List UInt8)×Bool)))
 |a=>
  br ((((a.length:Nat):Int).tmod 136) !=0) (
  br (cP ((a++([(0:UInt8)]:List UInt8)).length) 1) (
  some (.inl (a++([(0:UInt8)]:List UInt8)))) none) (
  some (.inr (a,((((a.length:Nat):Int).tmod 136) !=0))))
abbrev D3 (a b:List UInt8):List (Nat×Blk):=[(2000,⟨1,false,rws eU8 b⟩),(8001,⟨1,false,rws eU8 a⟩)]
theorem Ym {a}:LX tab ow (.close [10001,10002]) Do (mI a) (fun s=>⟨[(3,.sl 2000 0 s.length)],D3 a s⟩) (fun e=>(.exit 2,⟨[(3,.sl 2000 0 e.1.length),(26,B e.2)],D3 a e.1⟩)):=by
 refine lrX (fun s o h=> ?_)
 simp only [mI] at h
 simp only [D3,Do]
 exact go2
def oU (h c:List UInt8) (e:List Int):(List Int)×Int->Option (((List Int)×Int)⊕(((List Int)×Int×Bool)))
 | (b,a)=>
   br (decide (a<25)) (
   br (decide (0<=a)&&decide (a.toNat<25)) (
   (e[a.toNat]?).bind fun f=>
   br (decide (0<=a)&&decide (a.toNat<25)) (
   (b[a.toNat]?).bind fun d=>
   br (decide (0<=a)&&decide (a.toNat<25)) (
   br (decide (a.toNat<b.length)) (
   some (.inl ((b.set a.toNat (tm .u64 d f)),(wrap .i64 (a+1))))) none) none) none) none) (
   some (.inr (b,a,decide (a<25))))
abbrev Db (a:List UInt8) (b:List Int):List (Nat×Blk):=[(8001,⟨1,false,rws eU8 a⟩),(12001,⟨25,true,[ar .u64 b]⟩)]
theorem a0E {b a c}:LX tab ow (.close []) B3 (oU b a c) (fun s=>⟨[(3,sl eU8 a),(6,.ptr 12001 0 0 1),(46,.agg (ar .u64 c)),(47,I s.2)],Db b s.1⟩) (fun e=>(.exit 6,⟨[(3,sl eU8 a),(6,.ptr 12001 0 0 1),(46,.agg (ar .u64 c)),(47,I e.2.1),(48,B e.2.2)],Db b e.1⟩)):=by
 refine lrX (fun s o h=> ?_)
 obtain ⟨_,_⟩:=s
 simp only [oU] at h
 simp only [Db,B3]
 exact go2
def oN (e:List UInt8):(List Int)×(List UInt8)->Option (((List Int)×(List UInt8))⊕(((List Int)×(List UInt8)×Bool)))
 | (m,a)=>
   br (decide (((a.length:Nat):Int)>0)) (
   (lh a 0 136).bind fun y=>
   (Cg y).bind fun f=>
   (Loop (oU e a f) (m,0)).bind fun c=>
   (mQ c.1).bind fun b=>
   (lh a 136 ((a.length:Nat):Int)).bind fun d=>
   some (.inl (b,d))) (
   some (.inr (m,a,decide (((a.length:Nat):Int)>0))))
abbrev xi (a:List UInt8) (m:List Int):List (Nat×Blk):=[(8001,⟨1,false,rws eU8 a⟩),(12001,⟨25,true,[ar .u64 m]⟩)]
theorem Zh {a}:LX tab ow (.close [15002,20000,2000]) AX (oN a) (fun s=>⟨[(3,sl eU8 s.2),(6,.ptr 12001 0 0 1)],xi a s.1⟩) (fun e=>(.exit 4,⟨[(3,sl eU8 e.2.1),(6,.ptr 12001 0 0 1),(41,B e.2.2)],xi a e.1⟩)):=by
 refine lrX (fun s o h=> ?_)
 obtain ⟨_,_⟩:=s
 simp only [oN] at h
 simp only [xi,AX]
 have d1:= @a2H
 have d2:= @a0E
 have d3:= @Mc
 exact go2
def sX (b:(List (List UInt8))):Option ((List UInt8)):=
 (Loop (oK b ((b.length:Nat):Int)) (([]:List UInt8),0)).bind fun e=>
 br (cP ((e.1++([(1:UInt8)]:List UInt8)).length) 1) (
 (Loop (mI ([(1:UInt8)]:List UInt8)) (e.1++([(1:UInt8)]:List UInt8))).bind fun a=>
 br (decide (0<=(wrap .i64 (((a.1.length:Nat):Int)-1)))) (
 br (decide ((wrap .i64 (((a.1.length:Nat):Int)-1)).toNat<a.1.length)) (
 (a.1[(wrap .i64 (((a.1.length:Nat):Int)-1)).toNat]?).bind fun h=>
 br (decide (0<=(wrap .i64 (((a.1.length:Nat):Int)-1)))) (
 br (decide ((wrap .i64 (((a.1.length:Nat):Int)-1)).toNat<a.1.length)) (
 (a.1[(wrap .i64 (((a.1.length:Nat):Int)-1)).toNat]?).bind fun i=>
 (Loop (oN ([(1:UInt8)]:List UInt8)) ((nZ 25),(a.1.set ((wrap .i64 (((a.1.length:Nat):Int)-1)).toNat) (UInt8.ofInt (B7 .u8 (h.toNat:Int) 128))))).bind fun c=>
 (sN c.1).bind fun d=>
 (lh d.1 0 32).bind fun f=>
 some f) none) none) none) none) none
theorem zt {a r} (h:sX a=some r):Call tab ow 284 [sl (eL eU8) a] []=some (S r,[]):=by
 rw [aj (af:=Ef) rfl]
 unfold sX at h
 simp only [Ef,SQ]
 have d1:= @Yy
 have d2:= @Ym
 have d3:= @Zh
 simp only [xi] at d3
 have d4:= @Tl
 exact go2
end
section
theorem a1V:mkR 2002 []=rws (eL eU8) []:=rfl
attribute [local go_sem] a1V
def BW (t:(List UInt8)):Option ((List UInt8)):=
 br (cP t.length 1) (
 (sX ([t]:List (List UInt8))).bind fun a=>
 some a) none
theorem Uh {t r} (h:BW t=some r):Call tab ow 168 [S t] []=some (S r,[]):=by
 rw [aj (af:=D5) rfl]
 unfold BW at h
 simp only [D5,TY]
 have d1:= @zt
 exact go2
end
def FL (g:Gate) (a:Int):Option (Bool):=
 br (g.Op==3) (
 (rJ g.K).bind fun r_=>
 (jJ g.Op 1 8).bind fun v=>
 br v (
 br (g.A==0) (
 br (g.B==0) (
 some r_) (
 some false)) (
 some false)) (
 some false)) (
 br (g.Op==4) (
 br (g.Op==4) (
 (jJ g.A 0 (wrap .i64 (a-1))).bind fun w=>
 (jJ g.B 0 (wrap .i64 (a-1))).bind fun t=>
 (jJ g.Op 1 8).bind fun y=>
 br y (
 br w (
 br t (
 some (g.K==0)) (
 some false)) (
 some false)) (
 some false)) (
 br (g.Op==8) (
 (jJ g.A 0 (wrap .i64 (a-1))).bind fun r_6=>
 (jJ g.Op 1 8).bind fun z=>
 br z (
 br r_6 (
 br (g.B==0) (
 some (g.K==0)) (
 some false)) (
 some false)) (
 some false)) (
 (jJ g.Op 1 8).bind fun u=>
 br u (
 br (g.A==0) (
 br (g.B==0) (
 some (g.K==0)) (
 some false)) (
 some false)) (
 some false)))) (
 br (g.Op==5) (
 br (g.Op==5) (
 (jJ g.A 0 (wrap .i64 (a-1))).bind fun x=>
 (jJ g.B 0 (wrap .i64 (a-1))).bind fun m=>
 (jJ g.Op 1 8).bind fun j=>
 br j (
 br x (
 br m (
 some (g.K==0)) (
 some false)) (
 some false)) (
 some false)) (
 br (g.Op==8) (
 (jJ g.A 0 (wrap .i64 (a-1))).bind fun i=>
 (jJ g.Op 1 8).bind fun d=>
 br d (
 br i (
 br (g.B==0) (
 some (g.K==0)) (
 some false)) (
 some false)) (
 some false)) (
 (jJ g.Op 1 8).bind fun n=>
 br n (
 br (g.A==0) (
 br (g.B==0) (
 some (g.K==0)) (
 some false)) (
 some false)) (
 some false)))) (
 br (g.Op==6) (
 br (g.Op==6) (
 (jJ g.A 0 (wrap .i64 (a-1))).bind fun e=>
 (jJ g.B 0 (wrap .i64 (a-1))).bind fun b=>
 (jJ g.Op 1 8).bind fun s=>
 br s (
 br e (
 br b (
 some (g.K==0)) (
 some false)) (
 some false)) (
 some false)) (
 br (g.Op==8) (
 (jJ g.A 0 (wrap .i64 (a-1))).bind fun f=>
 (jJ g.Op 1 8).bind fun p=>
 br p (
 br f (
 br (g.B==0) (
 some (g.K==0)) (
 some false)) (
 some false)) (
 some false)) (
 (jJ g.Op 1 8).bind fun r=>
 br r (
 br (g.A==0) (
 br (g.B==0) (
 some (g.K==0)) (
 some false)) (
 some false)) (
 some false)))) (
 br (g.Op==7) (
 (jJ g.A 0 (wrap .i64 (a-1))).bind fun o=>
 (jJ g.B 0 (wrap .i64 (a-1))).bind fun c=>
 (jJ g.Op 1 8).bind fun k=>
 br k (
 br o (
 br c (
 some (g.K==0)) (
 some false)) (
 some false)) (
 some false)) (
 br (g.Op==8) (
 (jJ g.A 0 (wrap .i64 (a-1))).bind fun q=>
 (jJ g.Op 1 8).bind fun h=>
 br h (
 br q (
 br (g.B==0) (
 some (g.K==0)) (
 some false)) (
 some false)) (
 some false)) (
 (jJ g.Op 1 8).bind fun l=>
 br l (
 br (g.A==0) (
 br (g.B==0) (
 some (g.K==0)) (
 some false)) (
 some false)) (
 some false)))))))
theorem a6p {g a r} (h:FL g a=some r):Call tab ow 127 [.agg [I g.Op,I g.A,I g.B,I g.K],I a] []=some (B r,[]):=by
 rw [aj (af:=Dy) rfl]
 unfold FL at h
 simp only [Dy,Tm]
 have d1:= @GY
 have d2:= @zG
 exact go2
def fF (c:Int) (t:List Gate) (d:Int) (e:List Gate):Int×Int->Option ((Int×Int)⊕((Int×Int×Bool)))
 | (a,b)=>
   br (decide (b<d)) (
   (atL t b).bind fun x=>
   br (x.Op==c) (
   some (.inl ((wrap .i64 (a+1)),(wrap .i64 (b+1))))) (
   some (.inl (a,(wrap .i64 (b+1)))))) (
   some (.inr (a,b,decide (b<d))))
theorem Fm {a t b c}:LX tab ow (.close [5002]) th (fF a t b c) (fun s=>⟨[(1,I a),(5,I s.1),(9,sl eGate t),(10,I b),(11,I s.2)],[(1000,⟨1,true,[[sl eGate c]]⟩)]⟩) (fun e=>(.exit 0,⟨[(1,I a),(5,I e.1),(9,sl eGate t),(10,I b),(11,I e.2.1),(12,B e.2.2)],[(1000,⟨1,true,[[sl eGate c]]⟩)]⟩)):=by
 refine lrX (fun s o h=> ?_)
 obtain ⟨_,_⟩:=s
 simp only [fF] at h
 simp only [th,ti]
 exact go2
def iG (c:Circuit) (b:Int):Option (Int):=
 (Loop (fF b c.Gates ((c.Gates.length:Nat):Int) c.Gates) (0,0)).bind fun a=>
 some a.1
theorem xe {c a r} (h:iG c a=some r):Call tab ow 128 [.agg [sl eGate c.Gates],I a] []=some (I r,[]):=by
 rw [aj (af:=l8) rfl]
 unfold iG at h
 simp only [l8,pC]
 have d1:= @Fm
 exact go2
def fP (t:List Gate) (c:Int) (d:List Gate):Int->Option ((Int)⊕((Int×Int×Int×Int)⊕(Int×Bool)))
 |a=>
  br (decide (a<c)) (
  (atL t a).bind fun x=>
  (FL x a).bind fun b=>
  br (!b) (
  some (.inr (.inl (x.Op,x.A,x.B,x.K)))) (
  some (.inl (wrap .i64 (a+1))))) (
  some (.inr (.inr (a,decide (a<c)))))
theorem Po {t b a}:LX tab ow (.close [6003,7002]) Fa (fP t b a) (fun s=>⟨[(1,.ptr 1000 0 0 1),(11,sl eGate t),(12,I b),(13,I s)],[(1000,⟨1,true,[[sl eGate a]]⟩)]⟩) (alt (fun e=>((.ret,⟨[(2,B false)],[(1000,⟨1,true,[[sl eGate a]]⟩),(6003,⟨4,true,[[I e.1,I e.2.1,I e.2.2.1,I e.2.2.2]]⟩)]⟩):bT×St)) (fun e=>(.exit 0,⟨[(1,.ptr 1000 0 0 1),(11,sl eGate t),(12,I b),(13,I e.1),(14,B e.2)],[(1000,⟨1,true,[[sl eGate a]]⟩)]⟩))):=by
 refine lrX (fun s o h=> ?_)
 simp only [fP] at h
 simp only [Fa,Ev]
 have d1:= @a6p
 exact go2
def wm (c:Circuit):Option (Bool):=
 (jJ ((c.Gates.length:Nat):Int) 1 15).bind fun b=>
 br (!b) (
 some false) (
 (Loop (fP c.Gates ((c.Gates.length:Nat):Int) c.Gates) 0).bind (alt (fun e=>
 some false) (fun d=>
 (iG c 2).bind fun a=>
 some (decide (a<=7)))))
theorem Va {c r} (h:wm c=some r):Call tab ow 36 [.agg [sl eGate c.Gates]] []=some (B r,[]):=by
 rw [aj (af:=uB) rfl]
 unfold wm at h
 simp only [uB,Bv]
 have d1:= @zG
 have d2:= @Po
 have d3:= @xe
 exact go2
def j5 (x:Int):Option (Bool):=
 (rJ x).bind fun a=>
 some (!a)
theorem Fp {x r} (h:j5 x=some r):Call tab ow 248 [I x,.ptr 0 0 0 1] [⟨1,true,[[.fn 132 []]]⟩]=some (B r,[⟨1,true,[[.fn 132 []]]⟩]):=by
 rw [aj (af:=uG) rfl]
 unfold j5 at h
 simp only [uG,Jk]
 have d1:= @GY
 exact go2
def cG (c:List Int) (t:Int):Int->Option ((Int)⊕(Int⊕(Int×Bool)))
 |a=>
  br (decide (a<t)) (
  (atL c a).bind fun x=>
  (j5 x).bind fun b=>
  br b (
  some (.inr (.inl a))) (
  some (.inl (wrap .i64 (a+1))))) (
  some (.inr (.inr (a,decide (a<t)))))
theorem kG {a t}:LX tab ow (.close [5005]) mc (cG a t) (fun s=>⟨[(0,sl eI a),(1,.fn 248 [.ptr 0 0 0 1]),(7,I t),(8,I s)],[(0,⟨1,true,[[.fn 132 []]]⟩)]⟩) (alt (fun e=>((.ret,⟨[(4,I e)],[(0,⟨1,true,[[.fn 132 []]]⟩)]⟩):bT×St)) (fun e=>(.exit 0,⟨[(0,sl eI a),(1,.fn 248 [.ptr 0 0 0 1]),(7,I t),(8,I e.1),(9,B e.2)],[(0,⟨1,true,[[.fn 132 []]]⟩)]⟩))):=by
 refine lrX (fun s o h=> ?_)
 simp only [cG] at h
 simp only [mc,mf]
 have d1:= @Fp
 exact go2
def cX (s:(List Int)):Option (Int):=
 (Loop (cG s ((s.length:Nat):Int)) 0).bind (alt (fun a=>
 some a) (fun b=>
 some (-1:Int)))
theorem kY {s r} (h:cX s=some r):Call tab ow 335 [sl eI s,.fn 248 [.ptr 0 0 0 1]] [⟨1,true,[[.fn 132 []]]⟩]=some (I r,[⟨1,true,[[.fn 132 []]]⟩]):=by
 rw [aj (af:=gg) rfl]
 unfold cX at h
 simp only [gg,jh]
 have d1:= @kG
 exact go2
def cK (s:(List Int)):Option (Bool):=
 (cX s).bind fun a=>
 some (decide (a>=0))
theorem ka {s r} (h:cK s=some r):Call tab ow 247 [sl eI s,.fn 248 [.ptr 0 0 0 1]] [⟨1,true,[[.fn 132 []]]⟩]=some (B r,[⟨1,true,[[.fn 132 []]]⟩]):=by
 rw [aj (af:=fi) rfl]
 unfold cK at h
 simp only [fi,ld]
 have d1:= @kY
 exact go2
def ky (a:(List Int)):Option (Bool):=
 (cK a).bind fun b=>
 some (!b)
theorem Ib {a r} (h:ky a=some r):Call tab ow 131 [.fn 132 [],sl eI a] []=some (B r,[]):=by
 rw [aj (af:=AW) rfl]
 unfold ky at h
 simp only [AW,Ow]
 have d1:= @ka
 exact go2
def oe (t:Setting):Option (Bool):=
 (jJ t.Rate 1 3).bind fun c=>
 br c (
 (jJ t.Queries 1 8).bind fun a=>
 br a (
 (jJ t.Grind 0 12).bind fun b=>
 some b) (
 some false)) (
 some false)
theorem B1 {t r} (h:oe t=some r):Call tab ow 77 [.agg [I t.Rate,I t.Queries,I t.Grind]] []=some (B r,[]):=by
 rw [aj (af:=uq) rfl]
 unfold oe at h
 simp only [uq,IP]
 have d1:= @zG
 exact go2
def we (a:(List UInt8)):Option (Bool):=
 some (((a.length:Nat):Int)==32)
theorem E3 {a r} (h:we a=some r):Call tab ow 119 [S a] []=some (B r,[]):=by
 rw [aj (af:=DT) rfl]
 unfold we at h
 simp only [DT,Th]
 exact go2
def yV (s:Source):Option (Bool):=
 br (decide (((s.Script.length:Nat):Int)<=64)) (
 (gr s.Script).bind fun d=>
 br d (
 (we s.State).bind fun a=>
 br a (
 (jJ s.At 0 1000000).bind fun c=>
 br c (
 (jJ s.Count 0 1000000).bind fun b=>
 some b) (
 some false)) (
 some false)) (
 some false)) (
 some false)
theorem Zf {s r} (h:yV s=some r):Call tab ow 78 [.agg [sl eExt s.Script,I s.At,S s.State,I s.Count]] []=some (B r,[]):=by
 rw [aj (af:=xz) rfl]
 unfold yV at h
 simp only [xz,Md]
 have d1:= @pz
 have d2:= @E3
 have d3:= @zG
 exact go2
def uR (s:Source):Option (Int):=
 some (wrap .i64 (1000000-(mx s.At s.Count)))
theorem Pe {s r} (h:uR s=some r):Call tab ow 79 [.agg [sl eExt s.Script,I s.At,S s.State,I s.Count]] []=some (I r,[]):=by
 rw [aj (af:=re) rfl]
 unfold uR at h
 simp only [re,Eu]
 exact go2
def KT (a b:Int):Option (Int):=
 some ((wrap .i64 (a+b)).tmod 2130706433)
theorem Zm {a b r} (h:KT a b=some r):Call tab ow 164 [I a,I b] []=some (I r,[]):=by
 rw [aj (af:=Q6) rfl]
 unfold KT at h
 simp only [Q6,a7S]
 exact go2
def RT (a b:Int):Option (Int):=
 some ((wrap .i64 ((wrap .i64 (a-b))+2130706433)).tmod 2130706433)
theorem a90 {a b r} (h:RT a b=some r):Call tab ow 170 [I a,I b] []=some (I r,[]):=by
 rw [aj (af:=PW) rfl]
 unfold RT at h
 simp only [PW,a8R]
 exact go2
def zi (a b:Int):Option (Int):=
 some ((wrap .i64 (a*b)).tmod 2130706433)
theorem Q3 {a b r} (h:zi a b=some r):Call tab ow 171 [I a,I b] []=some (I r,[]):=by
 rw [aj (af:=Q1) rfl]
 unfold zi at h
 simp only [Q1,a86]
 exact go2
def fe (s:bk):Option (Int):=
 br (decide (0<=(wrap .i64 (s.Cols-1)))) (
 some (bG .i64 1 (wrap .i64 (s.Cols-1)))) none
theorem n8 {s r} (h:fe s=some r):Call tab ow 133 [.agg [I s.Rows,I s.Cols,I s.Publics,sl aA s.A,sl aA s.B,sl aA s.C]] []=some (I r,[]):=by
 rw [aj (af:=ra) rfl]
 unfold fe at h
 simp only [ra,EA]
 exact go2
def dn (h i:List Tri) (t j:Int) (f:List (Int×Int)) (d c:Int):(List Tri)×Int->Option (((List Tri)×Int)⊕(((List Tri)×Int×Bool)))
 | (b,a)=>
   br (decide (a<d)) (
   (atL f a).bind fun x=>
   (KT (ia c x.1 b) x.2).bind fun e=>
   some (.inl ((iB c x.1 e b),(wrap .i64 (a+1))))) (
   some (.inr (b,a,decide (a<d))))
abbrev wH (b a:List Tri) (c:Int) (d:List Tri):List (Nat×Blk):=[(0,⟨4,true,[[I c,.mp 1,.mp 2,.mp 3]]⟩),(1,⟨0,true,[bB d]⟩),(2,⟨0,true,[bB b]⟩),(3,⟨0,true,[bB a]⟩)]
theorem PA {a d t f i b c}:LX tab ow (.close [3002,4007,5013]) Fi (dn a d t f i b c) (fun s=>⟨[(0,.ptr 0 0 0 1),(2,I t),(3,I f),(11,sl (eA2 eI) i),(12,I b),(13,I s.2)],wH a d c s.1⟩) (fun e=>(.exit 0,⟨[(0,.ptr 0 0 0 1),(2,I t),(3,I f),(11,sl (eA2 eI) i),(12,I b),(13,I e.2.1),(14,B e.2.2)],wH a d c e.1⟩)):=by
 refine lrX (fun s o h=> ?_)
 obtain ⟨_,_⟩:=s
 simp only [dn] at h
 simp only [wH,Fi,F9]
 have d1:= @Zm
 exact go2
def dP (a:(List (Int×Int))) (e c m:Int) (h d b:List Tri):Option (Int×(List Tri)×(List Tri)×(List Tri)):=
 (Loop (dn d b e c a ((a.length:Nat):Int) m) (h,0)).bind fun f=>
 some ((wrap .i64 (m+1)),f.1,(iB m e 1 d),(iB m c 1 b))
theorem UZ {a f d m c e b r} (h:dP a f d m c e b=some r):Call tab ow 286 [.ptr 0 0 0 1,sl (eA2 eI) a,I f,I d] [⟨4,true,[[I m,.mp 1,.mp 2,.mp 3]]⟩,⟨0,true,[bB c]⟩,⟨0,true,[bB e]⟩,⟨0,true,[bB b]⟩]=some (.tup [],[⟨4,true,[[I r.1,.mp 1,.mp 2,.mp 3]]⟩,⟨0,true,[bB r.2.1]⟩,⟨0,true,[bB r.2.2.1]⟩,⟨0,true,[bB r.2.2.2]⟩]):=by
 rw [aj (af:=uo) rfl]
 unfold dP at h
 simp only [uo,BB]
 have d1:= @PA
 exact go2
section
theorem Lz:mkR 2006 []=rws (eA2 eI) []:=rfl
attribute [local go_sem] Lz
def dI (b a:Int) (m:(List Int)):Option ((List (Int×Int))):=
 (atL m b).bind fun x=>
 some ([(x,a)]:List (Int×Int))
theorem N5 {b a m r} (h:dI b a m=some r):Call tab ow 285 [I b,I a,.ptr 0 0 0 1] [⟨1,true,[[sl eI m]]⟩]=some (.sl 1 0 r.length,[⟨1,true,[[sl eI m]]⟩,⟨2,false,rws (eA2 eI) r⟩]):=by
 rw [aj (af:=oJ) rfl]
 unfold dI at h
 simp only [oJ,Cb]
 exact go2
end
section
theorem PP:mkR 5004 []=rws (eA2 eI) []:=rfl
attribute [local go_sem] PP
def sq (a:Gate) (k:Int) (f:(List Int)) (m:Int) (o n l:List Tri):Option (Int×(List Tri)×(List Tri)×(List Tri)):=
 br (a.Op==3) (
 (dP ([(0,a.K)]:List (Int×Int)) 0 k m o n l).bind fun y=>
 some (y.1,y.2.1,y.2.2.1,y.2.2.2)) (
 br (a.Op==4) (
 (dI a.A 1 f).bind fun q=>
 (dI a.B 1 f).bind fun r=>
 br (cP ((q++r).length) 16) (
 (dP (q++r) 0 k m o n l).bind fun h=>
 some (h.1,h.2.1,h.2.2.1,h.2.2.2)) none) (
 br (a.Op==5) (
 (dI a.A 1 f).bind fun u=>
 (dI a.B 2130706432 f).bind fun v=>
 br (cP ((u++v).length) 16) (
 (dP (u++v) 0 k m o n l).bind fun j=>
 some (j.1,j.2.1,j.2.2.1,j.2.2.2)) none) (
 br (a.Op==6) (
 (dI a.A 1 f).bind fun z=>
 (atL f a.B).bind fun x=>
 (dP z x k m o n l).bind fun i=>
 some (i.1,i.2.1,i.2.2.1,i.2.2.2)) (
 br (a.Op==7) (
 (dI a.B 1 f).bind fun t=>
 (dP t 0 k m o n l).bind fun d=>
 (dI a.A 1 f).bind fun s=>
 (dP s 0 k d.1 d.2.1 d.2.2.1 d.2.2.2).bind fun b=>
 some (b.1,b.2.1,b.2.2.1,b.2.2.2)) (
 br (a.Op==8) (
 (dI a.A 1 f).bind fun w=>
 (atL f a.A).bind fun x2=>
 (dP w x2 k m o n l).bind fun c=>
 (dI a.A 1 f).bind fun p=>
 (dP p 0 k c.1 c.2.1 c.2.2.1 c.2.2.2).bind fun e=>
 some (e.1,e.2.1,e.2.2.1,e.2.2.2)) (
 some (m,o,n,l)))))))
theorem Rh {a f d m c e b r} (h:sq a f d m c e b=some r):Call tab ow 172 [.ptr 0 0 0 1,.agg [I a.Op,I a.A,I a.B,I a.K],I f,sl eI d] [⟨4,true,[[I m,.mp 1,.mp 2,.mp 3]]⟩,⟨0,true,[bB c]⟩,⟨0,true,[bB e]⟩,⟨0,true,[bB b]⟩]=some (.tup [],[⟨4,true,[[I r.1,.mp 1,.mp 2,.mp 3]]⟩,⟨0,true,[bB r.2.1]⟩,⟨0,true,[bB r.2.2.1]⟩,⟨0,true,[bB r.2.2.2]⟩]):=by
 rw [aj (af:=sc) rfl]
 unfold sq at h
 simp only [sc,FN]
 have d1:= @UZ
 have d2:= @N5
 exact go2
end
def A3 (t:Tri):au:=⟨t.1,t.2.1,t.2.2⟩
def tD (m:List Tri):Option (List au×List Tri):=
 br (mW m&&decide (m.length<1073741824)) (
 some ((fV (m.filter nzT)).map A3,m)) none
theorem a4A {m r} (h:tD m=some r):Call tab ow 173 [.mp 0] [⟨0,true,[bB m]⟩]=some (sl aA r.1,[⟨0,true,[bB r.2]⟩]):=by
 unfold tD at h
 obtain ⟨hb,h⟩:=brg h
 cases h
 rw [TD (g:=a5v false) rfl]
 exact b8i aA A3 rfl (fun _=>rfl) hb
section
theorem I5:mkR 6000 []=rws eI []:=rfl
attribute [local go_sem] I5
theorem HZ:mkR 11002 []=rws eI []:=rfl
attribute [local go_sem] HZ
theorem HT:mkR 12002 []=rws eI []:=rfl
attribute [local go_sem] HT
def eX (t:Int) (c:List Gate) (f i h e b:Int):Int->Option ((Int)⊕((Bool×Int)))
 |d=>
  (fe (bk.mk e d b ([]:List au) ([]:List au) ([]:List au))).bind fun a=>
  br (decide (a<(mx (wrap .i64 (b+1)) t))) (
  some (.inl (wrap .i64 (d+1)))) (
  some (.inr (decide (a<(mx (wrap .i64 (b+1)) t)),d)))
abbrev oI (c:List Gate) (b h e a d f:Int):List (Nat×Blk):=[(1000,⟨1,true,[[sl eGate c]]⟩),(1001,⟨6,true,[[I b,I h,I e,.lit (.slice none 0 0),.lit (.slice none 0 0),.lit (.slice none 0 0)]]⟩),(2003,⟨6,true,[[I a,I f,I d,.lit (.slice none 0 0),.lit (.slice none 0 0),.lit (.slice none 0 0)]]⟩)]
theorem GC {t c b i f a d}:LX tab ow (.close [4001]) vG (eX t c b i f a d) (fun s=>⟨[(1,.ptr 1000 0 0 1),(2,.ptr 1001 0 0 1),(3,.ptr 2003 0 0 1),(4,I t)],oI c b i f a d s⟩) (fun e=>(.exit 0,⟨[(1,.ptr 1000 0 0 1),(2,.ptr 1001 0 0 1),(3,.ptr 2003 0 0 1),(4,I t),(29,B e.1)],oI c b i f a d e.2⟩)):=by
 refine lrX (fun s o h=> ?_)
 simp only [eX] at h
 simp only [oI,vG,vX]
 have d1:= @n8
 exact go2
def fa (j:List Gate) (d:Int) (m:List Gate) (n f h i e k:Int):(List Int)×Int×Int×Int->Option (((List Int)×Int×Int×Int)⊕(((List Int)×Int×Int×Int×Bool)))
 | (l,b,c,a)=>
   br (decide (a<d)) (
   (atL j a).bind fun x=>
   br (x.Op==2) (
   br (cP ((l++([b]:List Int)).length) 8) (
   some (.inl ((l++([b]:List Int)),(wrap .i64 (b+1)),c,(wrap .i64 (a+1))))) none) (
   br (cP ((l++([c]:List Int)).length) 8) (
   some (.inl ((l++([c]:List Int)),b,(wrap .i64 (c+1)),(wrap .i64 (a+1))))) none)) (
   some (.inr (l,b,c,a,decide (a<d))))
abbrev oE (f:List Gate) (h b c d a e:Int) (l:List Int):List (Nat×Blk):=[(1000,⟨1,true,[[sl eGate f]]⟩),(1001,⟨6,true,[[I h,I b,I c,.lit (.slice none 0 0),.lit (.slice none 0 0),.lit (.slice none 0 0)]]⟩),(2003,⟨6,true,[[I d,I a,I e,.lit (.slice none 0 0),.lit (.slice none 0 0),.lit (.slice none 0 0)]]⟩),(6000,⟨1,false,rws eI l⟩)]
theorem FA {j l i k b c d a f}:LX tab ow (.close [9002,11002,11003,12002,12003]) wk (fa j l i k b c d a f) (fun s=>⟨[(1,.ptr 1000 0 0 1),(2,.ptr 1001 0 0 1),(3,.ptr 2003 0 0 1),(5,.sl 6000 0 s.1.length),(6,I s.2.1),(7,I s.2.2.1),(38,sl eGate j),(39,I l),(40,I s.2.2.2)],oE i k b c d a f s.1⟩) (fun e=>(.exit 2,⟨[(1,.ptr 1000 0 0 1),(2,.ptr 1001 0 0 1),(3,.ptr 2003 0 0 1),(5,.sl 6000 0 e.1.length),(6,I e.2.1),(7,I e.2.2.1),(38,sl eGate j),(39,I l),(40,I e.2.2.2.1),(41,B e.2.2.2.2)],oE i k b c d a f e.1⟩)):=by
 refine lrX (fun s o h=> ?_)
 obtain ⟨_,_,_,_⟩:=s
 simp only [fa] at h
 simp only [oE,wk,wz]
 exact go2
def fW (d:List Int) (p:List Gate) (e:Int) (q:List Gate) (k l j o n s:Int):(List Tri)×(List Tri)×(List Tri)×Int×Int->Option (((List Tri)×(List Tri)×(List Tri)×Int×Int)⊕(((List Tri)×(List Tri)×(List Tri)×Int×Bool×Int)))
 | (m,f,h,b,c)=>
   br (decide (b<e)) (
   (atL p b).bind fun i=>
   br (decide (0<=b)) (
   br (decide (b.toNat<d.length)) (
   (d[b.toNat]?).bind fun r=>
   (sq i r d c m f h).bind fun a=>
   some (.inl (a.2.1,a.2.2.1,a.2.2.2,(wrap .i64 (b+1)),a.1))) none) none) (
   some (.inr (m,f,h,b,decide (b<e),c)))
abbrev o6 (l:List Int) (h:List Gate) (c e b f i a:Int) (m j k:List Tri) (d:Int):List (Nat×Blk):=[(1000,⟨1,true,[[sl eGate h]]⟩),(1001,⟨6,true,[[I c,I e,I b,.lit (.slice none 0 0),.lit (.slice none 0 0),.lit (.slice none 0 0)]]⟩),(2003,⟨6,true,[[I f,I i,I a,.lit (.slice none 0 0),.lit (.slice none 0 0),.lit (.slice none 0 0)]]⟩),(6000,⟨1,false,rws eI l⟩),(14000,⟨0,true,[bB m]⟩),(14001,⟨0,true,[bB j]⟩),(14002,⟨0,true,[bB k]⟩),(14004,⟨4,true,[[I d,.mp 14000,.mp 14001,.mp 14002]]⟩)]
theorem GJ {k l m f b c a d i j}:LX tab ow (.close [17003,18007]) tk (fW k l m f b c a d i j) (fun s=>⟨[(2,.ptr 1001 0 0 1),(3,.ptr 2003 0 0 1),(5,.sl 6000 0 k.length),(10,.ptr 14004 0 0 1),(66,sl eGate l),(67,I m),(68,I s.2.2.2.1)],o6 k f b c a d i j s.1 s.2.1 s.2.2.1 s.2.2.2.2⟩) (fun e=>(.exit 4,⟨[(2,.ptr 1001 0 0 1),(3,.ptr 2003 0 0 1),(5,.sl 6000 0 k.length),(10,.ptr 14004 0 0 1),(66,sl eGate l),(67,I m),(68,I e.2.2.2.1),(69,B e.2.2.2.2.1)],o6 k f b c a d i j e.1 e.2.1 e.2.2.1 e.2.2.2.2.2⟩)):=by
 refine lrX (fun s o h=> ?_)
 obtain ⟨_,_,_,_,_⟩:=s
 simp only [fW] at h
 simp only [o6,tk,tu]
 have d1:= @Rh
 exact go2
def ku (p:List Int) (q o n:List Tri) (l:List Gate) (f i:Int) (m:Bool) (j:List Gate) (k c h e d b:Int):Int->Option ((Int)⊕((Bool×Int)))
 |a=>
  br (decide (0<=a)) (
  br (decide ((bG .i64 1 a)<b)) (
  some (.inl (wrap .i64 (a+1)))) (
  some (.inr (decide ((bG .i64 1 a)<b),a)))) none
abbrev oG (k:List Int) (l m j:List Tri) (h:List Gate) (f a d c b i e:Int):List (Nat×Blk):=[(1000,⟨1,true,[[sl eGate h]]⟩),(1001,⟨6,true,[[I f,I a,I d,.lit (.slice none 0 0),.lit (.slice none 0 0),.lit (.slice none 0 0)]]⟩),(2003,⟨6,true,[[I e,I c,I b,.lit (.slice none 0 0),.lit (.slice none 0 0),.lit (.slice none 0 0)]]⟩),(6000,⟨1,false,rws eI k⟩),(14000,⟨0,true,[bB l]⟩),(14001,⟨0,true,[bB m]⟩),(14002,⟨0,true,[bB j]⟩),(14004,⟨4,true,[[I i,.mp 14000,.mp 14001,.mp 14002]]⟩)]
theorem Ft {p t r q l d i m j k a f c b n}:LX tab ow (.close []) tq (ku p t r q l d i m j k a f c b n) (fun s=>⟨[(2,.ptr 1001 0 0 1),(3,.ptr 2003 0 0 1),(5,.sl 6000 0 p.length),(10,.ptr 14004 0 0 1),(66,sl eGate l),(67,I d),(68,I i),(69,B m)],oG p t r q j k a f c b n s⟩) (fun e=>(.exit 6,⟨[(2,.ptr 1001 0 0 1),(3,.ptr 2003 0 0 1),(5,.sl 6000 0 p.length),(10,.ptr 14004 0 0 1),(66,sl eGate l),(67,I d),(68,I i),(69,B m),(89,B e.1)],oG p t r q j k a f c b n e.2⟩)):=by
 refine lrX (fun s o h=> ?_)
 simp only [ku] at h
 simp only [oG,tq,tp]
 exact go2
def ly (a:Circuit):Option (bk):=
 (iG a 2).bind fun c=>
 (Loop (eX (wrap .i64 (((a.Gates.length:Nat):Int)-c)) a.Gates 0 0 0 1 c) 2).bind fun d=>
 (fe (bk.mk 1 d.2 c ([]:List au) ([]:List au) ([]:List au))).bind fun k=>
 (Loop (fa a.Gates ((a.Gates.length:Nat):Int) a.Gates 0 0 0 1 d.2 c) (([]:List Int),1,k,0)).bind fun e=>
 (Loop (fW e.1 a.Gates ((a.Gates.length:Nat):Int) a.Gates 0 0 0 1 d.2 c) (([]:List Tri),([]:List Tri),([]:List Tri),0,0)).bind fun b=>
 (Loop (ku e.1 b.1 b.2.1 b.2.2.1 a.Gates ((a.Gates.length:Nat):Int) b.2.2.2.1 b.2.2.2.2.1 a.Gates 0 0 0 d.2 c b.2.2.2.2.2) 1).bind fun h=>
 (tD b.1).bind fun f=>
 (tD b.2.1).bind fun j=>
 (tD b.2.2.1).bind fun i=>
 some (bk.mk h.2 d.2 c f.1 j.1 i.1)
theorem Ku {a r} (h:ly a=some r):Call tab ow 81 [.agg [sl eGate a.Gates]] []=some (.agg [I r.Rows,I r.Cols,I r.Publics,sl aA r.A,sl aA r.B,sl aA r.C],[]):=by
 rw [aj (af:=mm) rfl]
 unfold ly at h
 simp only [mm,ij]
 have d1:= @xe
 have d2:= @GC
 have d3:= @n8
 have d4:= @FA
 have d5:= @GJ
 have d6:= @Ft
 have d7:= @a4A
 exact go2
end
section
theorem JY: ∀k,Ck 2003 k [I (0:Int)]=rws eI (List.replicate k (0:Int)):=fun _=>Nh eI (0:Int) _ _
attribute [local go_sem] JY
def mR (s:bk) (b a:(List Int)):Option ((List Int)):=
 br (decide (0<=s.Cols)) (
 br (zJ (bG .i64 1 s.Cols) (bG .i64 1 s.Cols) 8) (
 br (decide (0<(List.replicate ((bG .i64 (1:Int) s.Cols).toNat) (0:Int)).length)) (
 ((List.replicate ((bG .i64 (1:Int) s.Cols).toNat) (0:Int))[0]?).bind fun x=>
 br (decide ((1:Int)<=(((List.replicate ((bG .i64 (1:Int) s.Cols).toNat) (0:Int)).length:Nat):Int))) (
 br (decide (1+((List.replicate ((bG .i64 (1:Int) s.Cols).toNat) (0:Int)).length-1)=(List.replicate ((bG .i64 (1:Int) s.Cols).toNat) (0:Int)).length)) (
 (fe s).bind fun c=>
 br (decide (0<=c)&&decide (c<=(((List.replicate ((bG .i64 (1:Int) s.Cols).toNat) (0:Int)).length:Nat):Int))) (
 br (decide (c.toNat+((List.replicate ((bG .i64 (1:Int) s.Cols).toNat) (0:Int)).length-c.toNat)=(List.replicate ((bG .i64 (1:Int) s.Cols).toNat) (0:Int)).length)) (
 some (Gy (Gy ((List.replicate ((bG .i64 (1:Int) s.Cols).toNat) (0:Int)).set 0 (1:Int)) 1 (min b.length ((List.replicate ((bG .i64 (1:Int) s.Cols).toNat) (0:Int)).length-1)) b) c.toNat (min a.length ((List.replicate ((bG .i64 (1:Int) s.Cols).toNat) (0:Int)).length-c.toNat)) a)) none) none) none) none) none) none) none
theorem LZ {s b a r} (h:mR s b a=some r):Call tab ow 83 [.agg [I s.Rows,I s.Cols,I s.Publics,sl aA s.A,sl aA s.B,sl aA s.C],sl eI b,sl eI a] []=some (sl eI r,[]):=by
 rw [aj (af:=nU) rfl]
 unfold mR at h
 simp only [nU,A5]
 have d1:= @n8
 exact go2
end
def nf (s:Source):Option (Source):=
 (i6 s.Script).bind fun a=>
 some (Source.mk a s.At s.State s.Count)
theorem M7 {s r} (h:nf s=some r):Call tab ow 112 [.agg [sl eExt s.Script,I s.At,S s.State,I s.Count]] []=some (.agg [sl eExt r.Script,I r.At,S r.State,I r.Count],[]):=by
 rw [aj (af:=nR) rfl]
 unfold nf at h
 simp only [nR,Aq]
 have d1:= @xq
 exact go2
section
theorem b1G:mkR 2000 []=rws eExt []:=rfl
attribute [local go_sem] b1G
theorem a9j:mkR 6003 []=rws eExt []:=rfl
attribute [local go_sem] a9j
def u4 (t:List Int) (b:Int):(List Ext)×Int->Option (((List Ext)×Int)⊕(((List Ext)×Int×Bool)))
 | (l,a)=>
   br (decide (a<b)) (
   (atL t a).bind fun x=>
   br (cP ((l++([(Ext.mk x 0)]:List Ext)).length) 16) (
   some (.inl ((l++([(Ext.mk x 0)]:List Ext)),(wrap .i64 (a+1))))) none) (
   some (.inr (l,a,decide (a<b))))
theorem a7s {t a}:LX tab ow (.close [6003,6004]) T2 (u4 t a) (fun s=>⟨[(3,.sl 2000 0 s.1.length),(7,sl eI t),(8,I a),(9,I s.2)],[(2000,⟨2,false,rws eExt s.1⟩)]⟩) (fun e=>(.exit 0,⟨[(3,.sl 2000 0 e.1.length),(7,sl eI t),(8,I a),(9,I e.2.1),(10,B e.2.2)],[(2000,⟨2,false,rws eExt e.1⟩)]⟩)):=by
 refine lrX (fun s o h=> ?_)
 obtain ⟨_,_⟩:=s
 simp only [u4] at h
 simp only [T2,Tu]
 exact go2
def SV (a:(List Int)):Option ((List Ext)):=
 (Loop (u4 a ((a.length:Nat):Int)) (([]:List Ext),0)).bind fun b=>
 some b.1
theorem b5D {a r} (h:SV a=some r):Call tab ow 289 [sl eI a] []=some (sl eExt r,[]):=by
 rw [aj (af:=Ld) rfl]
 unfold SV at h
 simp only [Ld,T9]
 have d1:= @a7s
 exact go2
end
def fB (s:bk):Option (((List au)×(List au)×(List au))):=
 some (s.A,s.B,s.C)
theorem pJ {s r} (h:fB s=some r):Call tab ow 177 [.agg [I s.Rows,I s.Cols,I s.Publics,sl aA s.A,sl aA s.B,sl aA s.C]] []=some (.agg [sl aA r.1,sl aA r.2.1,sl aA r.2.2],[]):=by
 rw [aj (af:=l7) rfl]
 unfold fB at h
 simp only [l7,xa]
 exact go2
section
theorem a2G:mkR 2012 []=rws eU8 []:=rfl
attribute [local go_sem] a2G
def lf (n:Int) (l:List UInt8):Option ((List UInt8)):=
 br (cP ((l++([(UInt8.ofInt (bY .i64 n 24)),(UInt8.ofInt (bY .i64 n 16)),(UInt8.ofInt (bY .i64 n 8)),(UInt8.ofInt n)]:List UInt8)).length) 1) (
 some (l++([(UInt8.ofInt (bY .i64 n 24)),(UInt8.ofInt (bY .i64 n 16)),(UInt8.ofInt (bY .i64 n 8)),(UInt8.ofInt n)]:List UInt8))) none
theorem o5 {n l r} (h:lf n l=some r):Call tab ow 225 [.sl 0 0 l.length,I n] [⟨1,false,rws eU8 l⟩]=some (.sl 0 0 r.length,[⟨1,false,rws eU8 r⟩]):=by
 rw [aj (af:=C5) rfl]
 unfold lf at h
 simp only [C5,Sy]
 exact go2
end
section
theorem CV:mkR 2000 []=rws eU8 []:=rfl
attribute [local go_sem] CV
theorem D0:mkR 2011 []=rws eU8 []:=rfl
attribute [local go_sem] D0
theorem Ee:mkR 10007 []=rws eU8 []:=rfl
attribute [local go_sem] Ee
def dK (p:List UInt8) (t j k:List au) (h:Int) (e:List au) (d c i o:Int) (m f n:List au):(List UInt8)×Int->Option (((List UInt8)×Int)⊕(((List UInt8)×Int×Bool)))
 | (l,a)=>
   br (decide (a<d)) (
   (atL e a).bind fun x=>
   br (cP ((l++([(UInt8.ofInt x.Row),(UInt8.ofInt x.Col)]:List UInt8)).length) 1) (
   (lf x.Value (l++([(UInt8.ofInt x.Row),(UInt8.ofInt x.Col)]:List UInt8))).bind fun b=>
   some (.inl (b,(wrap .i64 (a+1))))) none) (
   some (.inr (l,a,decide (a<d))))
abbrev lN (h:List UInt8) (c b f:Int) (d a e:List au) (l:List UInt8):List (Nat×Blk):=[(1000,⟨6,true,[[I c,I b,I f,sl aA d,sl aA a,sl aA e]]⟩),(2000,⟨1,false,rws eU8 l⟩),(2011,⟨1,false,rws eU8 h⟩)]
theorem Cx {p t j k f b a c i n l d m}:LX tab ow (.close [9002,10007,10008,10011]) ew (dK p t j k f b a c i n l d m) (fun s=>⟨[(3,.sl 2000 0 s.1.length),(22,.agg [sl aA t,sl aA j,sl aA k]),(23,I f),(30,sl aA b),(31,I a),(32,I s.2)],lN p c i n l d m s.1⟩) (fun e=>(.exit 2,⟨[(3,.sl 2000 0 e.1.length),(22,.agg [sl aA t,sl aA j,sl aA k]),(23,I f),(30,sl aA b),(31,I a),(32,I e.2.1),(33,B e.2.2)],lN p c i n l d m e.1⟩)):=by
 refine lrX (fun s o h=> ?_)
 obtain ⟨_,_⟩:=s
 simp only [dK] at h
 simp only [lN,ew,iN]
 have d1:= @o5
 exact go2
def iH (o:List UInt8) (q r l:List au) (j:Int) (e:List au) (c p m n:Int) (h i k:List au):(List UInt8)×Int->Option (((List UInt8)×Int)⊕(((List UInt8)×Int×Bool)))
 | (f,a)=>
   br (decide (a<c)) (
   (atL e a).bind fun b=>
   br (cP ((f++([(UInt8.ofInt b.Row),(UInt8.ofInt b.Col)]:List UInt8)).length) 1) (
   (lf b.Value (f++([(UInt8.ofInt b.Row),(UInt8.ofInt b.Col)]:List UInt8))).bind fun d=>
   some (.inl (d,(wrap .i64 (a+1))))) none) (
   some (.inr (f,a,decide (a<c))))
abbrev lj (f:List UInt8) (i d e:Int) (a b c:List au) (h:List UInt8):List (Nat×Blk):=[(1000,⟨6,true,[[I i,I d,I e,sl aA a,sl aA b,sl aA c]]⟩),(2000,⟨1,false,rws eU8 h⟩),(2011,⟨1,false,rws eU8 f⟩)]
theorem CN {m p q i c f j n k l a b d}:LX tab ow (.close [9002,10007,10008,10011]) ew (iH m p q i c f j n k l a b d) (fun s=>⟨[(3,.sl 2000 0 s.1.length),(22,.agg [sl aA p,sl aA q,sl aA i]),(23,I c),(30,sl aA f),(31,I j),(32,I s.2)],lj m n k l a b d s.1⟩) (fun e=>(.exit 2,⟨[(3,.sl 2000 0 e.1.length),(22,.agg [sl aA p,sl aA q,sl aA i]),(23,I c),(30,sl aA f),(31,I j),(32,I e.2.1),(33,B e.2.2)],lj m n k l a b d e.1⟩)):=by
 refine lrX (fun s o h=> ?_)
 obtain ⟨_,_⟩:=s
 simp only [iH] at h
 simp only [lj,ew,iN]
 have d1:= @o5
 exact go2
def iM (r:List UInt8) (j o h:List au) (q:Int) (e:List au) (b i m p:Int) (l n k:List au):(List UInt8)×Int->Option (((List UInt8)×Int)⊕(((List UInt8)×Int×Bool)))
 | (f,a)=>
   br (decide (a<b)) (
   (atL e a).bind fun c=>
   br (cP ((f++([(UInt8.ofInt c.Row),(UInt8.ofInt c.Col)]:List UInt8)).length) 1) (
   (lf c.Value (f++([(UInt8.ofInt c.Row),(UInt8.ofInt c.Col)]:List UInt8))).bind fun d=>
   some (.inl (d,(wrap .i64 (a+1))))) none) (
   some (.inr (f,a,decide (a<b))))
abbrev lJ (i:List UInt8) (a d f:Int) (c e b:List au) (h:List UInt8):List (Nat×Blk):=[(1000,⟨6,true,[[I a,I d,I f,sl aA c,sl aA e,sl aA b]]⟩),(2000,⟨1,false,rws eU8 h⟩),(2011,⟨1,false,rws eU8 i⟩)]
theorem Cz {q c m a p k l b i n f j d}:LX tab ow (.close [9002,10007,10008,10011]) ew (iM q c m a p k l b i n f j d) (fun s=>⟨[(3,.sl 2000 0 s.1.length),(22,.agg [sl aA c,sl aA m,sl aA a]),(23,I p),(30,sl aA k),(31,I l),(32,I s.2)],lJ q b i n f j d s.1⟩) (fun e=>(.exit 2,⟨[(3,.sl 2000 0 e.1.length),(22,.agg [sl aA c,sl aA m,sl aA a]),(23,I p),(30,sl aA k),(31,I l),(32,I e.2.1),(33,B e.2.2)],lJ q b i n f j d e.1⟩)):=by
 refine lrX (fun s o h=> ?_)
 obtain ⟨_,_⟩:=s
 simp only [iM] at h
 simp only [lJ,ew,iN]
 have d1:= @o5
 exact go2
def j0 (s:bk):Option ((List UInt8)):=
 br (cP ((([(115:UInt8),(121:UInt8),(115:UInt8),(116:UInt8),(101:UInt8),(109:UInt8)]:List UInt8)++([(UInt8.ofInt s.Rows),(UInt8.ofInt s.Cols),(UInt8.ofInt s.Publics)]:List UInt8)).length) 1) (
 (fB s).bind fun a=>
 (lf ((a.1.length:Nat):Int) (([(115:UInt8),(121:UInt8),(115:UInt8),(116:UInt8),(101:UInt8),(109:UInt8)]:List UInt8)++([(UInt8.ofInt s.Rows),(UInt8.ofInt s.Cols),(UInt8.ofInt s.Publics)]:List UInt8))).bind fun c=>
 (Loop (dK ([(UInt8.ofInt s.Rows),(UInt8.ofInt s.Cols),(UInt8.ofInt s.Publics)]:List UInt8) a.1 a.2.1 a.2.2 0 a.1 ((a.1.length:Nat):Int) s.Rows s.Cols s.Publics s.A s.B s.C) (c,0)).bind fun h=>
 (lf ((a.2.1.length:Nat):Int) h.1).bind fun d=>
 (Loop (iH ([(UInt8.ofInt s.Rows),(UInt8.ofInt s.Cols),(UInt8.ofInt s.Publics)]:List UInt8) a.1 a.2.1 a.2.2 1 a.2.1 ((a.2.1.length:Nat):Int) s.Rows s.Cols s.Publics s.A s.B s.C) (d,0)).bind fun f=>
 (lf ((a.2.2.length:Nat):Int) f.1).bind fun b=>
 (Loop (iM ([(UInt8.ofInt s.Rows),(UInt8.ofInt s.Cols),(UInt8.ofInt s.Publics)]:List UInt8) a.1 a.2.1 a.2.2 2 a.2.2 ((a.2.2.length:Nat):Int) s.Rows s.Cols s.Publics s.A s.B s.C) (b,0)).bind fun e=>
 some e.1) none
theorem Fl {s r} (h:j0 s=some r):Call tab ow 351 [.agg [I s.Rows,I s.Cols,I s.Publics,sl aA s.A,sl aA s.B,sl aA s.C]] []=some (sl eU8 r,[]):=by
 rw [aj (af:=jT) rfl]
 unfold j0 at h
 simp+decide only [jT,jU,go_sem,reduceIte,Nat.reduceAdd,Int.reduceAdd,Int.reduceMul,Int.reduceSub]
 obtain ⟨hb,h⟩:=brg h
 refine Kc hb ?_
 obtain ⟨r_,h1,h⟩:=bd h
 refine zB (pJ h1) ?_
 simp+decide only [go_sem,reduceIte,Nat.reduceAdd,Int.reduceAdd,Int.reduceMul,Int.reduceSub]
 refine kj ?_
 simp+decide only [mkL,go_sem,reduceIte,Nat.reduceAdd,Int.reduceAdd,Int.reduceMul,Int.reduceSub]
 obtain ⟨r_2,h1,h⟩:=bd h
 refine zB (o5 h1) ?_
 simp+decide only [go_sem,reduceIte,Nat.reduceAdd,Int.reduceAdd,Int.reduceMul,Int.reduceSub]
 obtain ⟨e_,h1,h⟩:=bd h
 refine K1 (lxE Cx h1) ?_
 simp+decide only [go_sem,reduceIte,Nat.reduceAdd,Int.reduceAdd,Int.reduceMul,Int.reduceSub]
 refine kj ?_
 simp+decide only [mkL,go_sem,reduceIte,Nat.reduceAdd,Int.reduceAdd,Int.reduceMul,Int.reduceSub]
 obtain ⟨r_4,h1,h⟩:=bd h
 refine zB (o5 h1) ?_
 simp+decide only [go_sem,reduceIte,Nat.reduceAdd,Int.reduceAdd,Int.reduceMul,Int.reduceSub]
 obtain ⟨e_2,h1,h⟩:=bd h
 refine K1 (lxE CN h1) ?_
 simp+decide only [go_sem,reduceIte,Nat.reduceAdd,Int.reduceAdd,Int.reduceMul,Int.reduceSub]
 refine kj ?_
 simp+decide only [mkL,go_sem,reduceIte,Nat.reduceAdd,Int.reduceAdd,Int.reduceMul,Int.reduceSub]
 obtain ⟨r_6,h1,h⟩:=bd h
 refine zB (o5 h1) ?_
 simp+decide only [go_sem,reduceIte,Nat.reduceAdd,Int.reduceAdd,Int.reduceMul,Int.reduceSub]
 obtain ⟨e_3,h1,h⟩:=bd h
 refine K1 (lxE Cz h1) ?_
 simp+decide only [go_sem,reduceIte,Nat.reduceAdd,Int.reduceAdd,Int.reduceMul,Int.reduceSub]
 refine kj ?_
 simp+decide only [mkL,go_sem,reduceIte,Nat.reduceAdd,Int.reduceAdd,Int.reduceMul,Int.reduceSub]
 obtain rfl:=cZ h
 first|rfl| (simp only [bg,go_sem];done)
end
section
theorem S9:mkR 2002 []=rws (eL eU8) []:=rfl
attribute [local go_sem] S9
theorem T8:mkR 2014 []=rws eU8 []:=rfl
attribute [local go_sem] T8
def iT (l:List (List UInt8)) (k:List UInt8) (f:List Int) (d c j q:Int) (o i p:List au) (n h m:Int):(List UInt8)×Int->Option (((List UInt8)×Int)⊕(((List UInt8)×Int×Bool)))
 | (e,a)=>
   br (decide (a<d)) (
   (atL f a).bind fun x=>
   (lf x e).bind fun b=>
   some (.inl (b,(wrap .i64 (a+1))))) (
   some (.inr (e,a,decide (a<d))))
abbrev wJ (l:List (List UInt8)) (e:List UInt8) (c d k:Int) (i b j:List au) (h a f:Int) (m:List UInt8):List (Nat×Blk):=[(1000,⟨6,true,[[I c,I d,I k,sl aA i,sl aA b,sl aA j]]⟩),(1001,⟨3,true,[[I h,I a,I f]]⟩),(2002,⟨1,false,rws (eL eU8) l⟩),(2004,⟨1,false,rws eU8 m⟩),(2014,⟨1,false,rws eU8 e⟩)]
theorem Pu {l f j m c d q n b p k a i}:LX tab ow (.close [6002]) EM (iT l f j m c d q n b p k a i) (fun s=>⟨[(7,.sl 2004 0 s.1.length),(26,sl eI j),(27,I m),(28,I s.2)],wJ l f c d q n b p k a i s.1⟩) (fun e=>(.exit 0,⟨[(7,.sl 2004 0 e.1.length),(26,sl eI j),(27,I m),(28,I e.2.1),(29,B e.2.2)],wJ l f c d q n b p k a i e.1⟩)):=by
 refine lrX (fun s o h=> ?_)
 obtain ⟨_,_⟩:=s
 simp only [iT] at h
 simp only [wJ,EM,Fg]
 have d1:= @o5
 exact go2
def vP (s:bk) (t:Setting) (a:(List Int)):Option ((List UInt8)):=
 (j0 s).bind fun c=>
 (sX ([c]:List (List UInt8))).bind fun b=>
 br (cP b.length 1) (
 br (cP ((b++([(UInt8.ofInt t.Rate),(UInt8.ofInt t.Queries),(UInt8.ofInt t.Grind)]:List UInt8)).length) 1) (
 (Loop (iT ([c]:List (List UInt8)) ([(UInt8.ofInt t.Rate),(UInt8.ofInt t.Queries),(UInt8.ofInt t.Grind)]:List UInt8) a ((a.length:Nat):Int) s.Rows s.Cols s.Publics s.A s.B s.C t.Rate t.Queries t.Grind) ((b++([(UInt8.ofInt t.Rate),(UInt8.ofInt t.Queries),(UInt8.ofInt t.Grind)]:List UInt8)),0)).bind fun d=>
 some d.1) none) none
theorem Vn {s t a r} (h:vP s t a=some r):Call tab ow 290 [.agg [I s.Rows,I s.Cols,I s.Publics,sl aA s.A,sl aA s.B,sl aA s.C],.agg [I t.Rate,I t.Queries,I t.Grind],sl eI a] []=some (sl eU8 r,[]):=by
 rw [aj (af:=vm) rfl]
 unfold vP at h
 simp only [vm,Bl]
 have d1:= @Fl
 have d2:= @zt
 have d3:= @Pu
 exact go2
end
end
end Go.AI.Fn
