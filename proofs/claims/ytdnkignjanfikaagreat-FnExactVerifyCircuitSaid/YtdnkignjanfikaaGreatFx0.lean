/- Part. -/
import Derived.Test.YtdnkignjanfikaaGreatStr
set_option linter.unusedVariables false
set_option linter.unusedSimpArgs false
set_option maxRecDepth 100000
set_option maxHeartbeats 1000000
namespace Go.AI.Fn
noncomputable section
open IntKind (wrap)
def Kd (b:Bool):Option Int:=
 br b (
 some 1) (
 some 0)
theorem a5s {b r} (h:Kd b=some r):Call tab ow 303 [B b] []=some (I r,[]):=by
 rw [aj (af:=DH) rfl]
 unfold Kd at h
 simp only [DH,QJ]
 exact go2
def lv (a:Int) (b:List Gate):Int×Int->Option ((Int×Int)⊕((Int×Int×Bool)))
 | (n,k)=>
   br (decide (k<(b.length:Int))) (
   (atL b k).bind fun x=>
   (Kd (x.Op==a)).bind fun c=>
   some (.inl ((wrap .i64 (n+c)),(wrap .i64 (k+1))))) (
   some (.inr (n,k,decide (k<(b.length:Int)))))
theorem Qd {a b}:LX tab ow (.close [6009]) GE (lv a b) (fun s=>⟨[(1,I a),(2,.ptr 1000 0 0 1),(5,I s.1),(6,I s.2)],[(1000,⟨1,true,[[sl eGate b]]⟩)]⟩) (fun e=>(.exit 0,⟨[(1,I a),(2,.ptr 1000 0 0 1),(5,I e.1),(6,I e.2.1),(11,B e.2.2)],[(1000,⟨1,true,[[sl eGate b]]⟩)]⟩)):=by
 refine lrX (fun s o h=> ?_)
 obtain ⟨_,_⟩:=s
 simp only [lv] at h
 simp only [GE,GO]
 have d1:= @a5s
 exact go2
def qJ (c:Circuit) (b:Int):Option Int:=
 (Loop (lv b c.Gates) (0,0)).bind fun a=>
 some a.1
theorem CF {c a r} (h:qJ c a=some r):Call tab ow 187 [.agg [sl eGate c.Gates],I a] []=some (I r,[]):=by
 rw [aj (af:=xd) rfl]
 unfold qJ at h
 simp only [xd,Dj]
 have d1:= @Qd
 exact go2
def ez (n b a:Int):Option Bool:=
 br (decide (b<=n)) (
 some (decide (n<=a))) (
 some false)
theorem oM {n b a r} (h:ez n b a=some r):Call tab ow 115 [I n,I b,I a] []=some (B r,[]):=by
 rw [aj (af:=H4) rfl]
 unfold ez at h
 simp only [H4,Vr]
 exact go2
def Bv (a:Int):Option Int:=
 (ez a 4 7).bind fun b=>
 br b (
 some 2) (
 br (a==8) (
 some 1) (
 some 0))
theorem a2J {a r} (h:Bv a=some r):Call tab ow 188 [I a] []=some (I r,[]):=by
 rw [aj (af:=Ak) rfl]
 unfold Bv at h
 simp only [Ak,Nw]
 have d1:= @oM
 exact go2
def sx (a b:Int):Option Int:=
 some ((wrap .i64 (a+b)).tmod 2130706433)
theorem Jj {a b r} (h:sx a b=some r):Call tab ow 243 [I a,I b] []=some (I r,[]):=by
 rw [aj (af:=Dx) rfl]
 unfold sx at h
 simp only [Dx,SO]
 exact go2
def yr (a b:Int):Option Int:=
 some ((wrap .i64 ((wrap .i64 (a+2130706433))-b)).tmod 2130706433)
theorem Qz {a b r} (h:yr a b=some r):Call tab ow 244 [I a,I b] []=some (I r,[]):=by
 rw [aj (af:=Dc) rfl]
 unfold yr at h
 simp only [Dc,T2]
 exact go2
def li (a b:Int):Option Int:=
 some ((wrap .i64 (a*b)).tmod 2130706433)
theorem Db {a b r} (h:li a b=some r):Call tab ow 245 [I a,I b] []=some (I r,[]):=by
 rw [aj (af:=DB) rfl]
 unfold li at h
 simp only [DB,Rd]
 exact go2
def lj (m:List Int) (b:List UInt8):(List Int)×Int->Option (((List Int)×Int)⊕(((List Int)×Int×Bool)))
 | (a,i)=>
   br (decide (i<(b.length:Int))) (
   br (decide (0<=(wrap .i64 (i.tdiv 8)))&&decide ((wrap .i64 (i.tdiv 8)).toNat<25)) (
   (a[(wrap .i64 (i.tdiv 8)).toNat]?).bind fun x=>
   (atL b i).bind fun c=>
   br (decide (0<=(wrap .u64 (wrap .i64 (8*(i.tmod 8)))))) (
   br (decide (0<=(wrap .i64 (i.tdiv 8)))&&decide ((wrap .i64 (i.tdiv 8)).toNat<25)) (
   br (decide ((wrap .i64 (i.tdiv 8)).toNat<a.length)) (
   some (.inl ((a.set ((wrap .i64 (i.tdiv 8)).toNat) (xz .u64 x (bC .u64 (wrap .u64 (c.toNat:Int)) (wrap .u64 (wrap .i64 (8*(i.tmod 8))))))),(wrap .i64 (i+1))))) none) none) none) none) (
   some (.inr (a,i,decide (i<(b.length:Int)))))
abbrev yG (m a:List Int):List (Nat×Blk):=[(1000,⟨25,true,[ar .u64 m]⟩),(2001,⟨25,true,[ar .u64 a]⟩)]
theorem S9 {m a}:LX tab ow (.close []) y9 (lj m a) (fun s=>⟨[(0,S a),(2,.ptr 1000 0 0 1),(3,.ptr 2001 0 0 1),(4,I s.2)],yG m s.1⟩) (fun e=>(.exit 0,⟨[(0,S a),(2,.ptr 1000 0 0 1),(3,.ptr 2001 0 0 1),(4,I e.2.1),(9,B e.2.2)],yG m e.1⟩)):=by
 refine lrX (fun s o h=> ?_)
 obtain ⟨_,_⟩:=s
 simp only [lj] at h
 simp only [yG,y9]
 exact go2
def z7 (t:List UInt8):Option (List Int):=
 (Loop (lj (nZ 25) t) ((nZ 25),0)).bind fun a=>
 br (decide (a.1.length=25)) (
 br (decide (a.1.length=25)) (
 br (decide (a.1.length=25)) (
 some a.1) none) none) none
theorem Wt {t r} (h:z7 t=some r):Call tab ow 321 [S t] []=some (.agg (ar .u64 r),[]):=by
 rw [aj (af:=xq) rfl]
 unfold z7 at h
 simp only [xq,KL]
 have d1:= @S9
 exact go2
def FF:Option (List Int):=
 some ([1,32898,9223372036854808714,9223372039002292224,32907,2147483649,9223372039002292353,9223372036854808585,138,136,2147516425,2147483658,2147516555,9223372036854775947,9223372036854808713,9223372036854808579,9223372036854808578,9223372036854775936,32778,9223372039002259466,9223372039002292353,9223372036854808704,2147483649,9223372039002292232]:List Int)
theorem TD {r} (h:FF=some r):Call tab ow 365 [] []=some (.agg (ar .u64 r),[]):=by
 rw [aj (af:=ue) rfl]
 unfold FF at h
 simp only [ue,Ih]
 exact go2
def G0:Option (List Int):=
 some ([0,1,62,28,27,36,44,6,55,20,3,10,43,25,39,41,45,15,21,8,18,2,61,56,14]:List Int)
theorem TX {r} (h:G0=some r):Call tab ow 366 [] []=some (.agg (ar .u64 r),[]):=by
 rw [aj (af:=uo) rfl]
 unfold G0 at h
 simp only [uo,Im]
 exact go2
def xV (x n:Int):Option Int:=
 br (n==0) (
 some x) (
 br (decide (0<=n)) (
 br (decide (0<=(wrap .u64 (64-n)))) (
 some (xz .u64 (bC .u64 x n) (bW .u64 x (wrap .u64 (64-n))))) none) none)
theorem Oa {x n r} (h:xV x n=some r):Call tab ow 367 [.lit (.int .u64 x),.lit (.int .u64 n)] []=some (.lit (.int .u64 r),[]):=by
 rw [aj (af:=zG) rfl]
 unfold xV at h
 simp only [zG,NK]
 exact go2
def ju (b j l i:List Int) (k:Int):(List Int)×Int->Option (((List Int)×Int)⊕(((List Int)×Int×Bool)))
 | (c,a)=>
   br (decide (a<5)) (
   br (decide (0<=a)&&decide (a.toNat<25)) (
   (b[a.toNat]?).bind fun x=>
   br (decide (0<=(wrap .i64 (a+5)))&&decide ((wrap .i64 (a+5)).toNat<25)) (
   (b[(wrap .i64 (a+5)).toNat]?).bind fun h=>
   br (decide (0<=(wrap .i64 (a+10)))&&decide ((wrap .i64 (a+10)).toNat<25)) (
   (b[(wrap .i64 (a+10)).toNat]?).bind fun e=>
   br (decide (0<=(wrap .i64 (a+15)))&&decide ((wrap .i64 (a+15)).toNat<25)) (
   (b[(wrap .i64 (a+15)).toNat]?).bind fun f=>
   br (decide (0<=(wrap .i64 (a+20)))&&decide ((wrap .i64 (a+20)).toNat<25)) (
   (b[(wrap .i64 (a+20)).toNat]?).bind fun d=>
   br (decide (0<=a)&&decide (a.toNat<5)) (
   br (decide (a.toNat<c.length)) (
   some (.inl ((c.set a.toNat (nk .u64 (nk .u64 (nk .u64 (nk .u64 x h) e) f) d)),(wrap .i64 (a+1))))) none) none) none) none) none) none) none) (
   some (.inr (c,a,decide (a<5))))
abbrev t7 (b c e a d:List Int):List (Nat×Blk):=[(1000,⟨25,true,[ar .u64 b]⟩),(1001,⟨25,true,[ar .u64 c]⟩),(2001,⟨24,true,[ar .u64 e]⟩),(3001,⟨25,true,[ar .u64 a]⟩),(7001,⟨5,true,[ar .u64 d]⟩)]
theorem MQ {b c f a d}:LX tab ow (.close []) tA (ju b c f a d) (fun s=>⟨[(1,.ptr 1000 0 0 1),(2,.ptr 1001 0 0 1),(3,.ptr 2001 0 0 1),(4,.ptr 3001 0 0 1),(5,I d),(6,.ptr 7001 0 0 1),(7,I s.2)],t7 b c f a s.1⟩) (fun e=>(.exit 2,⟨[(1,.ptr 1000 0 0 1),(2,.ptr 1001 0 0 1),(3,.ptr 2001 0 0 1),(4,.ptr 3001 0 0 1),(5,I d),(6,.ptr 7001 0 0 1),(7,I e.2.1),(22,B e.2.2)],t7 b c f a e.1⟩)):=by
 refine lrX (fun s o h=> ?_)
 obtain ⟨_,_⟩:=s
 simp only [ju] at h
 simp only [t7,tA]
 exact go2
def jo (h f k c:List Int) (l:Int):(List Int)×Int->Option (((List Int)×Int)⊕(((List Int)×Int×Bool)))
 | (b,a)=>
   br (decide (a<25)) (
   br (decide (0<=a)&&decide (a.toNat<25)) (
   (b[a.toNat]?).bind fun i=>
   br (decide (0<=((wrap .i64 (a+4)).tmod 5))&&decide (((wrap .i64 (a+4)).tmod 5).toNat<5)) (
   (c[((wrap .i64 (a+4)).tmod 5).toNat]?).bind fun e=>
   br (decide (0<=((wrap .i64 (a+1)).tmod 5))&&decide (((wrap .i64 (a+1)).tmod 5).toNat<5)) (
   (c[((wrap .i64 (a+1)).tmod 5).toNat]?).bind fun j=>
   (xV j 1).bind fun d=>
   br (decide (0<=a)&&decide (a.toNat<25)) (
   br (decide (a.toNat<b.length)) (
   some (.inl ((b.set a.toNat (nk .u64 i (nk .u64 e d))),(wrap .i64 (a+1))))) none) none) none) none) none) (
   some (.inr (b,a,decide (a<25))))
abbrev tO (b a d e c:List Int):List (Nat×Blk):=[(1000,⟨25,true,[ar .u64 c]⟩),(1001,⟨25,true,[ar .u64 b]⟩),(2001,⟨24,true,[ar .u64 a]⟩),(3001,⟨25,true,[ar .u64 d]⟩),(7001,⟨5,true,[ar .u64 e]⟩)]
theorem M5 {b a c d f}:LX tab ow (.close [15013]) sq (jo b a c d f) (fun s=>⟨[(1,.ptr 1000 0 0 1),(2,.ptr 1001 0 0 1),(3,.ptr 2001 0 0 1),(4,.ptr 3001 0 0 1),(5,I f),(6,.ptr 7001 0 0 1),(8,I s.2)],tO b a c d s.1⟩) (fun e=>(.exit 4,⟨[(1,.ptr 1000 0 0 1),(2,.ptr 1001 0 0 1),(3,.ptr 2001 0 0 1),(4,.ptr 3001 0 0 1),(5,I f),(6,.ptr 7001 0 0 1),(8,I e.2.1),(51,B e.2.2)],tO b a c d e.1⟩)):=by
 refine lrX (fun s o h=> ?_)
 obtain ⟨_,_⟩:=s
 simp only [jo] at h
 simp only [tO,sq]
 have d1:= @Oa
 exact go2
def jt (f k l e i:List Int) (m b:Int):(List Int)×Int->Option (((List Int)×Int)⊕(((List Int)×Int×Bool)))
 | (c,a)=>
   br (decide (a<5)) (
   br (decide (0<=(wrap .i64 (b+(wrap .i64 (5*a)))))&&decide ((wrap .i64 (b+(wrap .i64 (5*a)))).toNat<25)) (
   (f[(wrap .i64 (b+(wrap .i64 (5*a)))).toNat]?).bind fun j=>
   br (decide (0<=(wrap .i64 (b+(wrap .i64 (5*a)))))&&decide ((wrap .i64 (b+(wrap .i64 (5*a)))).toNat<25)) (
   (e[(wrap .i64 (b+(wrap .i64 (5*a)))).toNat]?).bind fun h=>
   (xV j h).bind fun d=>
   br (decide (0<=(wrap .i64 (a+(wrap .i64 (5*((wrap .i64 ((wrap .i64 (2*b))+(wrap .i64 (3*a)))).tmod 5))))))&&decide ((wrap .i64 (a+(wrap .i64 (5*((wrap .i64 ((wrap .i64 (2*b))+(wrap .i64 (3*a)))).tmod 5))))).toNat<25)) (
   br (decide ((wrap .i64 (a+(wrap .i64 (5*((wrap .i64 ((wrap .i64 (2*b))+(wrap .i64 (3*a)))).tmod 5))))).toNat<c.length)) (
   some (.inl ((c.set ((wrap .i64 (a+(wrap .i64 (5*((wrap .i64 ((wrap .i64 (2*b))+(wrap .i64 (3*a)))).tmod 5))))).toNat) d),(wrap .i64 (a+1))))) none) none) none) none) (
   some (.inr (c,a,decide (a<5))))
abbrev tL (c d f b a e:List Int):List (Nat×Blk):=[(1000,⟨25,true,[ar .u64 c]⟩),(1001,⟨25,true,[ar .u64 d]⟩),(2001,⟨24,true,[ar .u64 f]⟩),(3001,⟨25,true,[ar .u64 b]⟩),(7001,⟨5,true,[ar .u64 a]⟩),(16001,⟨25,true,[ar .u64 e]⟩)]
theorem MY {b d f c a j i}:LX tab ow (.close [23021]) sH (jt b d f c a j i) (fun s=>⟨[(1,.ptr 1000 0 0 1),(2,.ptr 1001 0 0 1),(3,.ptr 2001 0 0 1),(4,.ptr 3001 0 0 1),(5,I j),(9,.ptr 16001 0 0 1),(10,I i),(11,I s.2)],tL b d f c a s.1⟩) (fun e=>(.exit 8,⟨[(1,.ptr 1000 0 0 1),(2,.ptr 1001 0 0 1),(3,.ptr 2001 0 0 1),(4,.ptr 3001 0 0 1),(5,I j),(9,.ptr 16001 0 0 1),(10,I i),(11,I e.2.1),(77,B e.2.2)],tL b d f c a e.1⟩)):=by
 refine lrX (fun s o h=> ?_)
 obtain ⟨_,_⟩:=s
 simp only [jt] at h
 simp only [tL,sH]
 have d1:= @Oa
 exact go2
def ji (i f c d e:List Int) (j:Int):(List Int)×Int->Option (((List Int)×Int)⊕(((List Int)×Int×Bool)))
 | (b,a)=>
   br (decide (a<5)) (
   (Loop (jt i f c d e j a) (b,0)).bind fun h=>
   some (.inl (h.1,(wrap .i64 (a+1))))) (
   some (.inr (b,a,decide (a<5))))
abbrev tC (e d a b c f:List Int):List (Nat×Blk):=[(1000,⟨25,true,[ar .u64 e]⟩),(1001,⟨25,true,[ar .u64 d]⟩),(2001,⟨24,true,[ar .u64 a]⟩),(3001,⟨25,true,[ar .u64 b]⟩),(7001,⟨5,true,[ar .u64 c]⟩),(16001,⟨25,true,[ar .u64 f]⟩)]
theorem MK {f d a b c i}:LX tab ow (.close [23021]) rZ (ji f d a b c i) (fun s=>⟨[(1,.ptr 1000 0 0 1),(2,.ptr 1001 0 0 1),(3,.ptr 2001 0 0 1),(4,.ptr 3001 0 0 1),(5,I i),(9,.ptr 16001 0 0 1),(10,I s.2)],tC f d a b c s.1⟩) (fun e=>(.exit 6,⟨[(1,.ptr 1000 0 0 1),(2,.ptr 1001 0 0 1),(3,.ptr 2001 0 0 1),(4,.ptr 3001 0 0 1),(5,I i),(9,.ptr 16001 0 0 1),(10,I e.2.1),(73,B e.2.2)],tC f d a b c e.1⟩)):=by
 refine lrX (fun s o h=> ?_)
 obtain ⟨_,_⟩:=s
 simp only [ji] at h
 simp only [tC,rZ]
 have d1:= @MY
 exact go2
def jr (k m i j d:List Int) (l b:Int):(List Int)×Int->Option (((List Int)×Int)⊕(((List Int)×Int×Bool)))
 | (c,a)=>
   br (decide (a<5)) (
   br (decide (0<=(wrap .i64 (b+(wrap .i64 (5*a)))))&&decide ((wrap .i64 (b+(wrap .i64 (5*a)))).toNat<25)) (
   (d[(wrap .i64 (b+(wrap .i64 (5*a)))).toNat]?).bind fun e=>
   br (decide (0<=(wrap .i64 (((wrap .i64 (b+1)).tmod 5)+(wrap .i64 (5*a)))))&&decide ((wrap .i64 (((wrap .i64 (b+1)).tmod 5)+(wrap .i64 (5*a)))).toNat<25)) (
   (d[(wrap .i64 (((wrap .i64 (b+1)).tmod 5)+(wrap .i64 (5*a)))).toNat]?).bind fun h=>
   br (decide (0<=(wrap .i64 (((wrap .i64 (b+2)).tmod 5)+(wrap .i64 (5*a)))))&&decide ((wrap .i64 (((wrap .i64 (b+2)).tmod 5)+(wrap .i64 (5*a)))).toNat<25)) (
   (d[(wrap .i64 (((wrap .i64 (b+2)).tmod 5)+(wrap .i64 (5*a)))).toNat]?).bind fun f=>
   br (decide (0<=(wrap .i64 (b+(wrap .i64 (5*a)))))&&decide ((wrap .i64 (b+(wrap .i64 (5*a)))).toNat<25)) (
   br (decide ((wrap .i64 (b+(wrap .i64 (5*a)))).toNat<c.length)) (
   some (.inl ((c.set ((wrap .i64 (b+(wrap .i64 (5*a)))).toNat) (nk .u64 e (cM .u64 (dz .u64 h) f))),(wrap .i64 (a+1))))) none) none) none) none) none) (
   some (.inr (c,a,decide (a<5))))
abbrev tx (d f b c e a:List Int):List (Nat×Blk):=[(1000,⟨25,true,[ar .u64 a]⟩),(1001,⟨25,true,[ar .u64 d]⟩),(2001,⟨24,true,[ar .u64 f]⟩),(3001,⟨25,true,[ar .u64 b]⟩),(7001,⟨5,true,[ar .u64 c]⟩),(16001,⟨25,true,[ar .u64 e]⟩)]
theorem MV {d j b c i f a}:LX tab ow (.close []) rX (jr d j b c i f a) (fun s=>⟨[(1,.ptr 1000 0 0 1),(2,.ptr 1001 0 0 1),(3,.ptr 2001 0 0 1),(4,.ptr 3001 0 0 1),(5,I f),(9,.ptr 16001 0 0 1),(12,I a),(13,I s.2)],tx d j b c i s.1⟩) (fun e=>(.exit 12,⟨[(1,.ptr 1000 0 0 1),(2,.ptr 1001 0 0 1),(3,.ptr 2001 0 0 1),(4,.ptr 3001 0 0 1),(5,I f),(9,.ptr 16001 0 0 1),(12,I a),(13,I e.2.1),(108,B e.2.2)],tx d j b c i e.1⟩)):=by
 refine lrX (fun s o h=> ?_)
 obtain ⟨_,_⟩:=s
 simp only [jr] at h
 simp only [tx,rX]
 exact go2
def jn (c f h i d:List Int) (j:Int):(List Int)×Int->Option (((List Int)×Int)⊕(((List Int)×Int×Bool)))
 | (b,a)=>
   br (decide (a<5)) (
   (Loop (jr c f h i d j a) (b,0)).bind fun e=>
   some (.inl (e.1,(wrap .i64 (a+1))))) (
   some (.inr (b,a,decide (a<5))))
abbrev tc (b d e f c a:List Int):List (Nat×Blk):=[(1000,⟨25,true,[ar .u64 a]⟩),(1001,⟨25,true,[ar .u64 b]⟩),(2001,⟨24,true,[ar .u64 d]⟩),(3001,⟨25,true,[ar .u64 e]⟩),(7001,⟨5,true,[ar .u64 f]⟩),(16001,⟨25,true,[ar .u64 c]⟩)]
theorem Mr {a c d f b i}:LX tab ow (.close []) rT (jn a c d f b i) (fun s=>⟨[(1,.ptr 1000 0 0 1),(2,.ptr 1001 0 0 1),(3,.ptr 2001 0 0 1),(4,.ptr 3001 0 0 1),(5,I i),(9,.ptr 16001 0 0 1),(12,I s.2)],tc a c d f b s.1⟩) (fun e=>(.exit 10,⟨[(1,.ptr 1000 0 0 1),(2,.ptr 1001 0 0 1),(3,.ptr 2001 0 0 1),(4,.ptr 3001 0 0 1),(5,I i),(9,.ptr 16001 0 0 1),(12,I e.2.1),(104,B e.2.2)],tc a c d f b e.1⟩)):=by
 refine lrX (fun s o h=> ?_)
 obtain ⟨_,_⟩:=s
 simp only [jn] at h
 simp only [tc,rT]
 have d1:= @MV
 exact go2
def js (e c d:List Int):(List Int)×Int->Option (((List Int)×Int)⊕(((List Int)×Int×Bool)))
 | (m,t)=>
   br (decide (t<24)) (
   (Loop (ju m e c d t) ((nZ 5),0)).bind fun h=>
   (Loop (jo e c d h.1 t) (m,0)).bind fun b=>
   (Loop (ji b.1 e c d h.1 t) ((nZ 25),0)).bind fun f=>
   (Loop (jn e c d h.1 f.1 t) (b.1,0)).bind fun a=>
   (a.1[0]?).bind fun i=>
   br (decide (0<=t)&&decide (t.toNat<24)) (
   (c[t.toNat]?).bind fun j=>
   br (decide (0<a.1.length)) (
   some (.inl ((a.1.set 0 (nk .u64 i j)),(wrap .i64 (t+1))))) none) none) (
   some (.inr (m,t,decide (t<24))))
abbrev sZ (b c a m:List Int):List (Nat×Blk):=[(1000,⟨25,true,[ar .u64 m]⟩),(1001,⟨25,true,[ar .u64 b]⟩),(2001,⟨24,true,[ar .u64 c]⟩),(3001,⟨25,true,[ar .u64 a]⟩)]
theorem MT {b c a}:LX tab ow (.close [7001,15013,16001,23021]) tG (js b c a) (fun s=>⟨[(1,.ptr 1000 0 0 1),(2,.ptr 1001 0 0 1),(3,.ptr 2001 0 0 1),(4,.ptr 3001 0 0 1),(5,I s.2)],sZ b c a s.1⟩) (fun e=>(.exit 0,⟨[(1,.ptr 1000 0 0 1),(2,.ptr 1001 0 0 1),(3,.ptr 2001 0 0 1),(4,.ptr 3001 0 0 1),(5,I e.2.1),(17,B e.2.2)],sZ b c a e.1⟩)):=by
 refine lrX (fun s o h=> ?_)
 obtain ⟨_,_⟩:=s
 simp only [js] at h
 simp only [sZ,tG]
 have d1:= @MQ
 have d2:= @M5
 have d3:= @MK
 have d4:= @Mr
 exact go2
def sw (a:List Int):Option (List Int):=
 br (decide (a.length=25)) (
 (FF).bind fun d=>
 br (decide (d.length=24)) (
 (G0).bind fun c=>
 br (decide (c.length=25)) (
 (Loop (js (nZ 25) d c) (a,0)).bind fun b=>
 br (decide (b.1.length=25)) (
 br (decide (b.1.length=25)) (
 br (decide (b.1.length=25)) (
 some b.1) none) none) none) none) none) none
theorem Rh {a r} (h:sw a=some r):Call tab ow 322 [.agg (ar .u64 a)] []=some (.agg (ar .u64 r),[]):=by
 rw [aj (af:=rI) rfl]
 unfold sw at h
 simp only [rI,FH]
 have d1:= @TD
 have d2:= @TX
 have d3:= @MT
 exact go2
section
@[local go_sem] theorem b7A:mkR 2000 []=rws eU8 []:=rfl
@[local go_sem] theorem b8Z:mkR 6011 []=rws eU8 []:=rfl
def mY (m:List Int) (a:Int):(List UInt8)×Int->Option (((List UInt8)×Int)⊕(((List UInt8)×Int×Bool)))
 | (l,i)=>
   br (decide (i<a)) (
   br (decide (0<=(wrap .i64 (i.tdiv 8)))&&decide ((wrap .i64 (i.tdiv 8)).toNat<25)) (
   (m[(wrap .i64 (i.tdiv 8)).toNat]?).bind fun x=>
   br (decide (0<=(wrap .u64 (wrap .i64 (8*(i.tmod 8)))))) (
   br (cP ((l++([(UInt8.ofInt (bW .u64 x (wrap .u64 (wrap .i64 (8*(i.tmod 8))))))]:List UInt8)).length) 1) (
   some (.inl ((l++([(UInt8.ofInt (bW .u64 x (wrap .u64 (wrap .i64 (8*(i.tmod 8))))))]:List UInt8)),(wrap .i64 (i+1))))) none) none) none) (
   some (.inr (l,i,decide (i<a))))
abbrev AD (m:List Int) (l:List UInt8):List (Nat×Blk):=[(1000,⟨25,true,[ar .u64 m]⟩),(2000,⟨1,false,rws eU8 l⟩)]
theorem Um {m a}:LX tab ow (.close [6011,6012]) HG (mY m a) (fun s=>⟨[(1,I a),(2,.ptr 1000 0 0 1),(5,.sl 2000 0 s.1.length),(6,I s.2)],AD m s.1⟩) (fun e=>(.exit 0,⟨[(1,I a),(2,.ptr 1000 0 0 1),(5,.sl 2000 0 e.1.length),(6,I e.2.1),(10,B e.2.2)],AD m e.1⟩)):=by
 refine lrX (fun s o h=> ?_)
 obtain ⟨_,_⟩:=s
 simp only [mY] at h
 simp only [AD,HG,ID]
 exact go2
def BR (a:List Int) (n:Int):Option (List UInt8):=
 br (decide (a.length=25)) (
 (Loop (mY a n) (([]:List UInt8),0)).bind fun b=>
 some b.1) none
theorem a1s {a n r} (h:BR a n=some r):Call tab ow 323 [.agg (ar .u64 a),I n] []=some (S r,[]):=by
 rw [aj (af:=zL) rfl]
 unfold BR at h
 simp only [zL,FR]
 have d1:= @Um
 exact go2
end
section
@[local go_sem] theorem b7M:mkR 2002 []=rws eU8 []:=rfl
@[local go_sem] theorem b94:mkR 4001 []=rws eU8 []:=rfl
def kH (a:List UInt8):(List UInt8)->Option (((List UInt8))⊕(((List UInt8)×Bool)))
 |l=>
  br (((l.length:Int).tmod 136) !=0) (
  br (cP ((l++([(0:UInt8)]:List UInt8)).length) 1) (
  some (.inl (l++([(0:UInt8)]:List UInt8)))) none) (
  some (.inr (l,(((l.length:Int).tmod 136) !=0))))
abbrev AB (a l:List UInt8):List (Nat×Blk):=[(2001,⟨1,false,rws eU8 l⟩),(2002,⟨1,false,rws eU8 a⟩)]
theorem TU {a}:LX tab ow (.close [4001,4002]) AU (kH a) (fun s=>⟨[(3,.sl 2001 0 s.length)],AB a s⟩) (fun e=>(.exit 0,⟨[(3,.sl 2001 0 e.1.length),(15,B e.2)],AB a e.1⟩)):=by
 refine lrX (fun s o h=> ?_)
 simp only [kH] at h
 simp only [AB,AU]
 exact go2
def mX (f:List UInt8) (c:List Int) (h:List UInt8) (b:Int):(List Int)×Int->Option (((List Int)×Int)⊕(((List Int)×Int×Bool)))
 | (a,i)=>
   br (decide (i<25)) (
   br (decide (0<=i)&&decide (i.toNat<25)) (
   (a[i.toNat]?).bind fun d=>
   br (decide (0<=i)&&decide (i.toNat<25)) (
   (c[i.toNat]?).bind fun e=>
   br (decide (0<=i)&&decide (i.toNat<25)) (
   br (decide (i.toNat<a.length)) (
   some (.inl ((a.set i.toNat (nk .u64 d e)),(wrap .i64 (i+1))))) none) none) none) none) (
   some (.inr (a,i,decide (i<25))))
abbrev AP (b:List UInt8) (a c:List Int):List (Nat×Blk):=[(2002,⟨1,false,rws eU8 b⟩),(6001,⟨25,true,[ar .u64 c]⟩),(10007,⟨25,true,[ar .u64 a]⟩)]
theorem Ty {c b d a}:LX tab ow (.close []) yH (mX c b d a) (fun s=>⟨[(3,sl eU8 d),(4,.ptr 6001 0 0 1),(5,I a),(6,.ptr 10007 0 0 1),(7,I s.2)],AP c b s.1⟩) (fun e=>(.exit 4,⟨[(3,sl eU8 d),(4,.ptr 6001 0 0 1),(5,I a),(6,.ptr 10007 0 0 1),(7,I e.2.1),(42,B e.2.2)],AP c b e.1⟩)):=by
 refine lrX (fun s o h=> ?_)
 obtain ⟨_,_⟩:=s
 simp only [mX] at h
 simp only [AP,yH]
 exact go2
def mT (f d:List UInt8):(List Int)×Int->Option (((List Int)×Int)⊕(((List Int)×Int×Bool)))
 | (m,a)=>
   br (decide (a<(d.length:Int))) (
   (lr d a (wrap .i64 (a+136))).bind fun y=>
   (z7 y).bind fun e=>
   br (decide (e.length=25)) (
   (Loop (mX f e d a) (m,0)).bind fun b=>
   br (decide (b.1.length=25)) (
   (sw b.1).bind fun c=>
   br (decide (c.length=25)&&decide (b.1.length=25)) (
   some (.inl (c,(wrap .i64 (a+136))))) none) none) none) (
   some (.inr (m,a,decide (a<(d.length:Int)))))
abbrev uB (a:List UInt8) (m:List Int):List (Nat×Blk):=[(2002,⟨1,false,rws eU8 a⟩),(6001,⟨25,true,[ar .u64 m]⟩)]
theorem U0 {b a}:LX tab ow (.close [10006,10007,15001,2001]) B3 (mT b a) (fun s=>⟨[(3,sl eU8 a),(4,.ptr 6001 0 0 1),(5,I s.2)],uB b s.1⟩) (fun e=>(.exit 2,⟨[(3,sl eU8 a),(4,.ptr 6001 0 0 1),(5,I e.2.1),(31,B e.2.2)],uB b e.1⟩)):=by
 refine lrX (fun s o h=> ?_)
 obtain ⟨_,_⟩:=s
 simp only [mT] at h
 simp only [uB,B3]
 have d1:= @Wt
 have d2:= @Ty
 have d3:= @Rh
 exact go2
def l8 (b:List UInt8):Option (List UInt8):=
 br (cP b.length 1) (
 br (cP ((b++([(1:UInt8)]:List UInt8)).length) 1) (
 (Loop (kH ([(1:UInt8)]:List UInt8)) (b++([(1:UInt8)]:List UInt8))).bind fun a=>
 br (decide (0<=(wrap .i64 ((a.1.length:Int)-1)))) (
 br (decide ((wrap .i64 ((a.1.length:Int)-1)).toNat<a.1.length)) (
 (a.1[(wrap .i64 ((a.1.length:Int)-1)).toNat]?).bind fun x=>
 br (decide (0<=(wrap .i64 ((a.1.length:Int)-1)))) (
 br (decide ((wrap .i64 ((a.1.length:Int)-1)).toNat<a.1.length)) (
 (a.1[(wrap .i64 ((a.1.length:Int)-1)).toNat]?).bind fun e=>
 (Loop (mT ([(1:UInt8)]:List UInt8) (a.1.set ((wrap .i64 ((a.1.length:Int)-1)).toNat) (UInt8.ofInt (xz .u8 (x.toNat:Int) 128)))) ((nZ 25),0)).bind fun c=>
 br (decide (c.1.length=25)) (
 (BR c.1 32).bind fun d=>
 some d) none) none) none) none) none) none) none
theorem rA {b r} (h:l8 b=some r):Call tab ow 218 [S b] []=some (S r,[]):=by
 rw [aj (af:=zz) rfl]
 unfold l8 at h
 simp only [zz,NF]
 have d1:= @TU
 have d2:= @U0
 simp only [uB] at d2
 have d3:= @a1s
 exact go2
end
section
@[local go_sem] theorem b5j:mkR 2000 []=rws eU8 []:=rfl
@[local go_sem] theorem b6l:mkR 6007 []=rws eU8 []:=rfl
def ww (a:Int):(List UInt8)×Int->Option (((List UInt8)×Int)⊕(((List UInt8)×Int×Bool)))
 | (l,i)=>
   br (decide (i>=0)) (
   br (decide (0<=(wrap .u64 (wrap .i64 (8*i))))) (
   br (cP ((l++([(UInt8.ofInt (bW .i64 a (wrap .u64 (wrap .i64 (8*i)))))]:List UInt8)).length) 1) (
   some (.inl ((l++([(UInt8.ofInt (bW .i64 a (wrap .u64 (wrap .i64 (8*i)))))]:List UInt8)),(wrap .i64 (i-1))))) none) none) (
   some (.inr (l,i,decide (i>=0))))
theorem OC {a}:LX tab ow (.close [6007,6008]) DX (ww a) (fun s=>⟨[(0,I a),(5,.sl 2000 0 s.1.length),(6,I s.2)],[(2000,⟨1,false,rws eU8 s.1⟩)]⟩) (fun e=>(.exit 0,⟨[(0,I a),(5,.sl 2000 0 e.1.length),(6,I e.2.1),(11,B e.2.2)],[(2000,⟨1,false,rws eU8 e.1⟩)]⟩)):=by
 refine lrX (fun s o h=> ?_)
 obtain ⟨_,_⟩:=s
 simp only [ww] at h
 simp only [DX,DT]
 exact go2
def fZ (n a:Int):Option (List UInt8):=
 (Loop (ww n) (([]:List UInt8),(wrap .i64 (a-1)))).bind fun b=>
 some b.1
theorem jd {n a r} (h:fZ n a=some r):Call tab ow 213 [I n,I a] []=some (sl eU8 r,[]):=by
 rw [aj (af:=uK) rfl]
 unfold fZ at h
 simp only [uK,AS]
 have d1:= @OC
 exact go2
end
def kn (s:Source) (t:List UInt8):Option Source:=
 br (cP (s.State.length+(([97,98,115,111,114,98]:List UInt8)).length) 1) (
 (fZ (t.length:Int) 4).bind fun b=>
 br (cP ((s.State++(([97,98,115,111,114,98]:List UInt8))).length+b.length) 1) (
 br (cP (((s.State++(([97,98,115,111,114,98]:List UInt8)))++b).length+t.length) 1) (
 (l8 (((s.State++(([97,98,115,111,114,98]:List UInt8)))++b)++t)).bind fun a=>
 some (Source.mk s.Script s.At a 0)) none) none) none
theorem pP {s t r} (h:kn s t=some r):Call tab ow 191 [.agg [sl eExt s.Script,I s.At,S s.State,I s.Count],S t] []=some (.agg [sl eExt r.Script,I r.At,S r.State,I r.Count],[]):=by
 rw [aj (af:=u4) rfl]
 unfold kn at h
 simp only [u4,Ix]
 have d1:= @jd
 have d2:= @rA
 exact go2
def ln (a:List UInt8):Int×Int->Option ((Int×Int)⊕((Int×Int×Bool)))
 | (n,i)=>
   br (decide (i<8)) (
   (atL a i).bind fun c=>
   some (.inl (((wrap .i64 ((wrap .i64 (n*256))+(wrap .i64 (c.toNat:Int)))).tmod 2130706433),(wrap .i64 (i+1))))) (
   some (.inr (n,i,decide (i<8))))
theorem Q2 {a}:LX tab ow (.close []) FK (ln a) (fun s=>⟨[(0,S a),(3,I s.1),(4,I s.2)],[]⟩) (fun e=>(.exit 0,⟨[(0,S a),(3,I e.1),(4,I e.2.1),(6,B e.2.2)],[]⟩)):=by
 refine lrX (fun s o h=> ?_)
 obtain ⟨_,_⟩:=s
 simp only [ln] at h
 simp only [FK,G3]
 exact go2
def tm (t:List UInt8):Option Int:=
 (Loop (ln t) (0,0)).bind fun a=>
 some a.1
theorem WW {t r} (h:tm t=some r):Call tab ow 304 [S t] []=some (I r,[]):=by
 rw [aj (af:=xf) rfl]
 unfold tm at h
 simp only [xf,CB]
 have d1:= @Q2
 exact go2
def rf (s:Source):Option (Source×Ext):=
 br (decide ((s.Script.length:Int)>0)) (
 br (decide ((s.Script.length:Int)≠0)) (
 (atL s.Script (s.At.tmod (s.Script.length:Int))).bind fun x=>
 some ((Source.mk s.Script (wrap .i64 (s.At+1)) s.State s.Count),x)) none) (
 br (cP (s.State.length+(([100,114,97,119]:List UInt8)).length) 1) (
 (fZ s.Count 4).bind fun d=>
 br (cP ((s.State++(([100,114,97,119]:List UInt8))).length+d.length) 1) (
 (l8 ((s.State++(([100,114,97,119]:List UInt8)))++d)).bind fun a=>
 (lr a 0 8).bind fun y=>
 (tm y).bind fun b=>
 (lr a 8 16).bind fun e=>
 (tm e).bind fun c=>
 some ((Source.mk s.Script s.At s.State (wrap .i64 (s.Count+1))),(Ext.mk b c))) none) none)
theorem G1 {s r} (h:rf s=some r):Call tab ow 192 [.agg [sl eExt s.Script,I s.At,S s.State,I s.Count]] []=some (.tup [.agg [sl eExt r.1.Script,I r.1.At,S r.1.State,I r.1.Count],.agg [I r.2.A,I r.2.B]],[]):=by
 rw [aj (af:=A6) rfl]
 unfold rf at h
 simp only [A6,O8]
 have d1:= @jd
 have d2:= @rA
 have d3:= @WW
 exact go2
def jB (n b a:Int):Option Bool:=
 br (decide (b<=n)) (
 some (decide (n<=a))) (
 some false)
theorem yV {n b a r} (h:jB n b a=some r):Call tab ow 68 [I n,I b,I a] []=some (B r,[]):=by
 rw [aj (af:=XJ) rfl]
 unfold jB at h
 simp only [XJ,b1q]
 exact go2
def re (a:Int):Option Bool:=
 (jB a 0 2130706432).bind fun b=>
 some b
theorem Gd {a r} (h:re a=some r):Call tab ow 132 [I a] []=some (B r,[]):=by
 rw [aj (af:=zD) rfl]
 unfold re at h
 simp only [zD,N3]
 have d1:= @yV
 exact go2
def uI (a:Ext):Option Bool:=
 (re a.A).bind fun c=>
 br c (
 (re a.B).bind fun b=>
 some b) (
 some false)
theorem MR {a r} (h:uI a=some r):Call tab ow 72 [.agg [I a.A,I a.B]] []=some (B r,[]):=by
 rw [aj (af:=Hm) rfl]
 unfold uI at h
 simp only [Hm,VL]
 have d1:= @Gd
 exact go2
def iW (x:Ext):Option Bool:=
 (uI x).bind fun a=>
 some (!a)
theorem EV {x r} (h:iW x=some r):Call tab ow 167 [.agg [I x.A,I x.B],.ptr 0 0 0 1] [⟨1,true,[[.fn 72 []]]⟩]=some (B r,[⟨1,true,[[.fn 72 []]]⟩]):=by
 rw [aj (af:=pZ) rfl]
 unfold iW at h
 simp only [pZ,DS]
 have d1:= @MR
 exact go2
def cp (c:List Ext) (t:Int):Int->Option ((Int)⊕(Int⊕(Int×Bool)))
 |a=>
  br (decide (a<t)) (
  (atL c a).bind fun x=>
  (iW x).bind fun b=>
  br b (
  some (.inr (.inl a))) (
  some (.inl (wrap .i64 (a+1))))) (
  some (.inr (.inr (a,decide (a<t)))))
theorem jj {a t}:LX tab ow (.close [5005]) jT (cp a t) (fun s=>⟨[(0,sl eExt a),(1,.fn 167 [.ptr 0 0 0 1]),(7,I t),(8,I s)],[(0,⟨1,true,[[.fn 72 []]]⟩)]⟩) (alt (fun e=>((.ret,⟨[(4,I e)],[(0,⟨1,true,[[.fn 72 []]]⟩)]⟩):bR×St)) (fun e=>(.exit 0,⟨[(0,sl eExt a),(1,.fn 167 [.ptr 0 0 0 1]),(7,I t),(8,I e.1),(9,B e.2)],[(0,⟨1,true,[[.fn 72 []]]⟩)]⟩))):=by
 refine lrX (fun s o h=> ?_)
 simp only [cp] at h
 simp only [jT,jS]
 have d1:= @EV
 exact go2
def cF (s:List Ext):Option Int:=
 (Loop (cp s (s.length:Int)) 0).bind (alt (fun a=>
 some a) (fun b=>
 some (-1:Int)))
theorem jR {s r} (h:cF s=some r):Call tab ow 283 [sl eExt s,.fn 167 [.ptr 0 0 0 1]] [⟨1,true,[[.fn 72 []]]⟩]=some (I r,[⟨1,true,[[.fn 72 []]]⟩]):=by
 rw [aj (af:=ey) rfl]
 unfold cF at h
 simp only [ey,gZ]
 have d1:= @jj
 exact go2
def cr (s:List Ext):Option Bool:=
 (cF s).bind fun a=>
 some (decide (a>=0))
theorem ja {s r} (h:cr s=some r):Call tab ow 166 [sl eExt s,.fn 167 [.ptr 0 0 0 1]] [⟨1,true,[[.fn 72 []]]⟩]=some (B r,[⟨1,true,[[.fn 72 []]]⟩]):=by
 rw [aj (af:=dU) rfl]
 unfold cr at h
 simp only [dU,jA]
 have d1:= @jR
 exact go2
def gx (a:List Ext):Option Bool:=
 (cr a).bind fun b=>
 some (!b)
theorem pg {a r} (h:gx a=some r):Call tab ow 71 [.fn 72 [],sl eExt a] []=some (B r,[]):=by
 rw [aj (af:=ug) rfl]
 unfold gx at h
 simp only [ug,HZ]
 have d1:= @ja
 exact go2
def hJ (l:List Ext):Option (List Ext):=br (cP l.length 16) (some l) none
theorem xa (x:Ext) (l:List Ext) (a:cP (x::l).length 16=true):Call (OA 73 bF) QT 73 [sl eExt (x::l)] []=some (.sl 0 0 (x::l).length,[⟨2,false,rws eExt (x::l)⟩]):=by
 rw [aj (af:=bF) (Mi _ _)]
 rw [ah] at a
 simp+decide only [bF,j5,fun k=>mk0 eExt k,a3k,go_sem,reduceIte,Nat.reduceAdd,a]
theorem xl {l r:List Ext} (h:hJ l=some r):Call tab ow 73 [sl eExt l] []=some (.sl 0 0 r.length,[⟨2,false,rws eExt r⟩]):=by
 unfold hJ at h
 obtain ⟨hb,h⟩:=brg h
 cases h
 rw [QL (g:=ZH 73 bF 2) rfl]
 cases l with
 |nil=>rfl
 |cons x l=>exact xa x l hb
def mR (m:List Int) (t:List UInt8) (c:Int):(List Int)×Int->Option (((List Int)×Int)⊕(((List Int)×Int×Bool)))
 | (b,a)=>
   br (decide (a<c)) (
   (atL t a).bind fun x=>
   br (decide (0<=(wrap .i64 (a.tdiv 8)))&&decide ((wrap .i64 (a.tdiv 8)).toNat<25)) (
   (b[(wrap .i64 (a.tdiv 8)).toNat]?).bind fun d=>
   br (decide (0<=(wrap .i64 (8*(a.tmod 8))))) (
   br (decide (0<=(wrap .i64 (a.tdiv 8)))&&decide ((wrap .i64 (a.tdiv 8)).toNat<25)) (
   br (decide ((wrap .i64 (a.tdiv 8)).toNat<b.length)) (
   some (.inl ((b.set ((wrap .i64 (a.tdiv 8)).toNat) (xz .u64 d (bC .u64 (wrap .u64 (x.toNat:Int)) (wrap .i64 (8*(a.tmod 8)))))),(wrap .i64 (a+1))))) none) none) none) none) (
   some (.inr (b,a,decide (a<c))))
abbrev B2 (m a:List Int):List (Nat×Blk):=[(1000,⟨25,true,[ar .u64 m]⟩),(2001,⟨25,true,[ar .u64 a]⟩)]
theorem Ua {m t a}:LX tab ow (.close []) B7 (mR m t a) (fun s=>⟨[(2,.ptr 1000 0 0 1),(3,.ptr 2001 0 0 1),(7,sl eU8 t),(8,I a),(9,I s.2)],B2 m s.1⟩) (fun e=>(.exit 0,⟨[(2,.ptr 1000 0 0 1),(3,.ptr 2001 0 0 1),(7,sl eU8 t),(8,I a),(9,I e.2.1),(10,B e.2.2)],B2 m e.1⟩)):=by
 refine lrX (fun s o h=> ?_)
 obtain ⟨_,_⟩:=s
 simp only [mR] at h
 simp only [B2,B7]
 exact go2
def BI (a:List UInt8):Option (List Int):=
 (Loop (mR (nZ 25) a (a.length:Int)) ((nZ 25),0)).bind fun b=>
 br (decide (b.1.length=25)) (
 br (decide (b.1.length=25)) (
 br (decide (b.1.length=25)) (
 some b.1) none) none) none
theorem a1Y {a r} (h:BI a=some r):Call tab ow 344 [sl eU8 a] []=some (.agg (ar .u64 r),[]):=by
 rw [aj (af:=zC) rfl]
 unfold BI at h
 simp only [zC,Ng]
 have d1:= @Ua
 exact go2
def eZ (x k:Int):Option Int:=
 br (decide (0<=(cM .u64 (wrap .u64 k) 63))) (
 br (decide (0<=(wrap .u64 (64-(cM .u64 (wrap .u64 k) 63))))) (
 some (xz .u64 (bC .u64 x (cM .u64 (wrap .u64 k) 63)) (bW .u64 x (wrap .u64 (64-(cM .u64 (wrap .u64 k) 63)))))) none) none
theorem AQ {x k r} (h:eZ x k=some r):Call tab ow 376 [.lit (.int .u64 x),I k] []=some (.lit (.int .u64 r),[]):=by
 rw [aj (af:=il) rfl]
 unfold eZ at h
 simp only [il,pJ]
 exact go2
def gK (c h j i:List Int) (k:Int) (l:List Int) (f:Int):(List Int)×Int->Option (((List Int)×Int)⊕(((List Int)×Int×Bool)))
 | (b,a)=>
   br (decide (a<25)) (
   br (decide (0<=a)&&decide (a.toNat<25)) (
   (c[a.toNat]?).bind fun e=>
   br (decide (0<=(a.tmod 5))&&decide ((a.tmod 5).toNat<5)) (
   (b[(a.tmod 5).toNat]?).bind fun d=>
   br (decide (0<=(a.tmod 5))&&decide ((a.tmod 5).toNat<5)) (
   br (decide ((a.tmod 5).toNat<b.length)) (
   some (.inl ((b.set ((a.tmod 5).toNat) (nk .u64 d e)),(wrap .i64 (a+1))))) none) none) none) none) (
   some (.inr (b,a,decide (a<25))))
abbrev pn (b c e d a:List Int):List (Nat×Blk):=[(0,⟨25,true,[ar .u64 b]⟩),(1001,⟨25,true,[ar .i64 c]⟩),(2001,⟨24,true,[ar .u64 e]⟩),(6002,⟨5,true,[ar .u64 a]⟩),(6003,⟨25,true,[ar .u64 d]⟩)]
theorem Hp {b c f d i j a}:LX tab ow (.close []) pb (gK b c f d i j a) (fun s=>⟨[(0,.ptr 0 0 0 1),(2,.ptr 1001 0 0 1),(5,.lit (.int .u64 i)),(6,.ptr 6002 0 0 1),(7,.ptr 6003 0 0 1),(20,.agg (ar .u64 j)),(21,I a),(26,.ptr 0 0 0 1),(27,I s.2)],pn b c f d s.1⟩) (fun e=>(.exit 2,⟨[(0,.ptr 0 0 0 1),(2,.ptr 1001 0 0 1),(5,.lit (.int .u64 i)),(6,.ptr 6002 0 0 1),(7,.ptr 6003 0 0 1),(20,.agg (ar .u64 j)),(21,I a),(26,.ptr 0 0 0 1),(27,I e.2.1),(28,B e.2.2)],pn b c f d e.1⟩)):=by
 refine lrX (fun s o h=> ?_)
 obtain ⟨_,_⟩:=s
 simp only [gK] at h
 simp only [pn,pb]
 exact go2
def gH (e d i c:List Int) (p:Int) (o:List Int) (n:Int):(List Int)×Int->Option (((List Int)×Int)⊕(((List Int)×Int×Bool)))
 | (b,a)=>
   br (decide (a<25)) (
   br (decide (0<=a)&&decide (a.toNat<25)) (
   (e[a.toNat]?).bind fun l=>
   br (decide (0<=((wrap .i64 ((a.tmod 5)+4)).tmod 5))&&decide (((wrap .i64 ((a.tmod 5)+4)).tmod 5).toNat<5)) (
   (c[((wrap .i64 ((a.tmod 5)+4)).tmod 5).toNat]?).bind fun j=>
   br (decide (0<=((wrap .i64 ((a.tmod 5)+1)).tmod 5))&&decide (((wrap .i64 ((a.tmod 5)+1)).tmod 5).toNat<5)) (
   (c[((wrap .i64 ((a.tmod 5)+1)).tmod 5).toNat]?).bind fun m=>
   (eZ m 1).bind fun k=>
   br (decide (0<=a)&&decide (a.toNat<25)) (
   (d[a.toNat]?).bind fun h=>
   (eZ (nk .u64 l (nk .u64 j k)) h).bind fun f=>
   br (decide (0<=(wrap .i64 ((wrap .i64 (a.tdiv 5))+(wrap .i64 (5*((wrap .i64 ((wrap .i64 (2*(a.tmod 5)))+(wrap .i64 (3*(wrap .i64 (a.tdiv 5)))))).tmod 5))))))&&decide ((wrap .i64 ((wrap .i64 (a.tdiv 5))+(wrap .i64 (5*((wrap .i64 ((wrap .i64 (2*(a.tmod 5)))+(wrap .i64 (3*(wrap .i64 (a.tdiv 5)))))).tmod 5))))).toNat<25)) (
   br (decide ((wrap .i64 ((wrap .i64 (a.tdiv 5))+(wrap .i64 (5*((wrap .i64 ((wrap .i64 (2*(a.tmod 5)))+(wrap .i64 (3*(wrap .i64 (a.tdiv 5)))))).tmod 5))))).toNat<b.length)) (
   some (.inl ((b.set ((wrap .i64 ((wrap .i64 (a.tdiv 5))+(wrap .i64 (5*((wrap .i64 ((wrap .i64 (2*(a.tmod 5)))+(wrap .i64 (3*(wrap .i64 (a.tdiv 5)))))).tmod 5))))).toNat) f),(wrap .i64 (a+1))))) none) none) none) none) none) none) (
   some (.inr (b,a,decide (a<25))))
abbrev pc (c b a d e:List Int):List (Nat×Blk):=[(0,⟨25,true,[ar .u64 c]⟩),(1001,⟨25,true,[ar .i64 b]⟩),(2001,⟨24,true,[ar .u64 a]⟩),(6002,⟨5,true,[ar .u64 d]⟩),(6003,⟨25,true,[ar .u64 e]⟩)]
theorem Hu {c b a d j i f}:LX tab ow (.close [16011,17013]) nE (gH c b a d j i f) (fun s=>⟨[(0,.ptr 0 0 0 1),(2,.ptr 1001 0 0 1),(5,.lit (.int .u64 j)),(6,.ptr 6002 0 0 1),(7,.ptr 6003 0 0 1),(20,.agg (ar .u64 i)),(21,I f),(41,.ptr 0 0 0 1),(42,I s.2)],pc c b a d s.1⟩) (fun e=>(.exit 4,⟨[(0,.ptr 0 0 0 1),(2,.ptr 1001 0 0 1),(5,.lit (.int .u64 j)),(6,.ptr 6002 0 0 1),(7,.ptr 6003 0 0 1),(20,.agg (ar .u64 i)),(21,I f),(41,.ptr 0 0 0 1),(42,I e.2.1),(43,B e.2.2)],pc c b a d e.1⟩)):=by
 refine lrX (fun s o h=> ?_)
 obtain ⟨_,_⟩:=s
 simp only [gH] at h
 simp only [pc,nE]
 have d1:= @AQ
 exact go2
def gG (j f i c:List Int) (n:Int) (h:List Int) (l:Int) (d:List Int):(List Int)×Int->Option (((List Int)×Int)⊕(((List Int)×Int×Bool)))
 | (b,a)=>
   br (decide (a<25)) (
   br (decide (0<=a)&&decide (a.toNat<25)) (
   (d[a.toNat]?).bind fun m=>
   br (decide (0<=(wrap .i64 ((wrap .i64 (a-(a.tmod 5)))+((wrap .i64 ((a.tmod 5)+2)).tmod 5))))&&decide ((wrap .i64 ((wrap .i64 (a-(a.tmod 5)))+((wrap .i64 ((a.tmod 5)+2)).tmod 5))).toNat<25)) (
   (c[(wrap .i64 ((wrap .i64 (a-(a.tmod 5)))+((wrap .i64 ((a.tmod 5)+2)).tmod 5))).toNat]?).bind fun k=>
   br (decide (0<=(wrap .i64 ((wrap .i64 (a-(a.tmod 5)))+((wrap .i64 ((a.tmod 5)+1)).tmod 5))))&&decide ((wrap .i64 ((wrap .i64 (a-(a.tmod 5)))+((wrap .i64 ((a.tmod 5)+1)).tmod 5))).toNat<25)) (
   (c[(wrap .i64 ((wrap .i64 (a-(a.tmod 5)))+((wrap .i64 ((a.tmod 5)+1)).tmod 5))).toNat]?).bind fun e=>
   br (decide (0<=a)&&decide (a.toNat<25)) (
   br (decide (a.toNat<b.length)) (
   some (.inl ((b.set a.toNat (nk .u64 m (PQ .u64 k e))),(wrap .i64 (a+1))))) none) none) none) none) none) (
   some (.inr (b,a,decide (a<25))))
abbrev pv (d a b c e:List Int):List (Nat×Blk):=[(0,⟨25,true,[ar .u64 e]⟩),(1001,⟨25,true,[ar .i64 d]⟩),(2001,⟨24,true,[ar .u64 a]⟩),(6002,⟨5,true,[ar .u64 b]⟩),(6003,⟨25,true,[ar .u64 c]⟩)]
theorem Hv {i b d f k c j a}:LX tab ow (.close []) nT (gG i b d f k c j a) (fun s=>⟨[(0,.ptr 0 0 0 1),(2,.ptr 1001 0 0 1),(5,.lit (.int .u64 k)),(7,.ptr 6003 0 0 1),(20,.agg (ar .u64 c)),(21,I j),(82,.agg (ar .u64 a)),(83,I s.2)],pv i b d f s.1⟩) (fun e=>(.exit 6,⟨[(0,.ptr 0 0 0 1),(2,.ptr 1001 0 0 1),(5,.lit (.int .u64 k)),(7,.ptr 6003 0 0 1),(20,.agg (ar .u64 c)),(21,I j),(82,.agg (ar .u64 a)),(83,I e.2.1),(84,B e.2.2)],pv i b d f e.1⟩)):=by
 refine lrX (fun s o h=> ?_)
 obtain ⟨_,_⟩:=s
 simp only [gG] at h
 simp only [pv,nT]
 exact go2
def gI (h e t:List Int):(List Int)×Int->Option (((List Int)×Int)⊕(((List Int)×Int×Bool)))
 | (d,a)=>
   br (decide (a<24)) (
   br (decide (0<=a)&&decide (a.toNat<24)) (
   (t[a.toNat]?).bind fun x=>
   (Loop (gK d h e (nZ 25) x t a) ((nZ 5),0)).bind fun i=>
   (Loop (gH d h e i.1 x t a) ((nZ 25),0)).bind fun b=>
   br (decide (b.1.length=25)) (
   (Loop (gG h e i.1 b.1 x t a b.1) (d,0)).bind fun c=>
   (c.1[0]?).bind fun f=>
   br (decide (0<c.1.length)) (
   some (.inl ((c.1.set 0 (nk .u64 f x)),(wrap .i64 (a+1))))) none) none) none) (
   some (.inr (d,a,decide (a<24))))
abbrev pm (c a b:List Int):List (Nat×Blk):=[(0,⟨25,true,[ar .u64 b]⟩),(1001,⟨25,true,[ar .i64 c]⟩),(2001,⟨24,true,[ar .u64 a]⟩)]
theorem Ht {b a t}:LX tab ow (.close [6002,6003,16011,17013]) pa (gI b a t) (fun s=>⟨[(0,.ptr 0 0 0 1),(2,.ptr 1001 0 0 1),(20,.agg (ar .u64 t)),(21,I s.2)],pm b a s.1⟩) (fun e=>(.exit 0,⟨[(0,.ptr 0 0 0 1),(2,.ptr 1001 0 0 1),(20,.agg (ar .u64 t)),(21,I e.2.1),(22,B e.2.2)],pm b a e.1⟩)):=by
 refine lrX (fun s o h=> ?_)
 obtain ⟨_,_⟩:=s
 simp only [gI] at h
 simp only [pm,pa]
 have d1:= @Hp
 have d2:= @Hu
 have d3:= @Hv
 exact go2
def mJ (m:List Int):Option (List Int):=
 (Loop (gI ([0,1,62,28,27,36,44,6,55,20,3,10,43,25,39,41,45,15,21,8,18,2,61,56,14]:List Int) ([1,32898,9223372036854808714,9223372039002292224,32907,2147483649,9223372039002292353,9223372036854808585,138,136,2147516425,2147483658,2147516555,9223372036854775947,9223372036854808713,9223372036854808579,9223372036854808578,9223372036854775936,32778,9223372039002259466,9223372039002292353,9223372036854808704,2147483649,9223372039002292232]:List Int) ([1,32898,9223372036854808714,9223372039002292224,32907,2147483649,9223372039002292353,9223372036854808585,138,136,2147516425,2147483658,2147516555,9223372036854775947,9223372036854808713,9223372036854808579,9223372036854808578,9223372036854775936,32778,9223372039002259466,9223372039002292353,9223372036854808704,2147483649,9223372039002292232]:List Int)) (m,0)).bind fun a=>
 some a.1
theorem Ls {m r} (h:mJ m=some r):Call tab ow 345 [.ptr 0 0 0 1] [⟨25,true,[ar .u64 m]⟩]=some (.tup [],[⟨25,true,[ar .u64 r]⟩]):=by
 rw [aj (af:=nr) rfl]
 unfold mJ at h
 simp only [nr,zr]
 have d1:= @Ht
 exact go2
end
end Go.AI.Fn
set_option linter.unusedVariables false
set_option linter.unusedSimpArgs false
set_option maxRecDepth 100000
set_option maxHeartbeats 1000000
namespace Go.AI.Fn
noncomputable section
open IntKind (wrap)
section
@[local go_sem] theorem b1k:mkR 2000 []=rws eU8 []:=rfl
@[local go_sem] theorem b1l:mkR 6012 []=rws eU8 []:=rfl
def jp (a:List Int):(List UInt8)×Int->Option (((List UInt8)×Int)⊕(((List UInt8)×Int×Bool)))
 | (l,t)=>
   br (decide (t<200)) (
   br (decide (0<=(wrap .i64 (t.tdiv 8)))&&decide ((wrap .i64 (t.tdiv 8)).toNat<25)) (
   (a[(wrap .i64 (t.tdiv 8)).toNat]?).bind fun x=>
   br (decide (0<=(wrap .i64 (8*(t.tmod 8))))) (
   br (cP ((l++([(UInt8.ofInt (bW .u64 x (wrap .i64 (8*(t.tmod 8)))))]:List UInt8)).length) 1) (
   some (.inl ((l++([(UInt8.ofInt (bW .u64 x (wrap .i64 (8*(t.tmod 8)))))]:List UInt8)),(wrap .i64 (t+1))))) none) none) none) (
   some (.inr (l,t,decide (t<200))))
abbrev tN (a:List Int) (l:List UInt8):List (Nat×Blk):=[(0,⟨25,true,[ar .u64 a]⟩),(2000,⟨1,false,rws eU8 l⟩)]
theorem MB {a}:LX tab ow (.close [6012,6013]) BX (jp a) (fun s=>⟨[(0,.ptr 0 0 0 1),(3,.sl 2000 0 s.1.length),(6,I s.2)],tN a s.1⟩) (fun e=>(.exit 0,⟨[(0,.ptr 0 0 0 1),(3,.sl 2000 0 e.1.length),(6,I e.2.1),(7,B e.2.2)],tN a e.1⟩)):=by
 refine lrX (fun s o h=> ?_)
 obtain ⟨_,_⟩:=s
 simp only [jp] at h
 simp only [tN,BX,BM]
 exact go2
def sh (m:List Int):Option ((List UInt8)×(List Int)):=
 (Loop (jp m) (([]:List UInt8),0)).bind fun a=>
 some (a.1,m)
theorem Q8 {m r} (h:sh m=some r):Call tab ow 346 [.ptr 0 0 0 1] [⟨25,true,[ar .u64 m]⟩]=some (sl eU8 r.1,[⟨25,true,[ar .u64 r.2]⟩]):=by
 rw [aj (af:=sc) rfl]
 unfold sh at h
 simp only [sc,yY]
 have d1:= @MB
 exact go2
end
section
@[local go_sem] theorem c1X:mkR 2000 []=rws eU8 []:=rfl
@[local go_sem] theorem c2j:mkR 8001 []=rws eU8 []:=rfl
@[local go_sem] theorem c2d:mkR 10001 []=rws eU8 []:=rfl
def oN (t:List (List UInt8)) (b:Int):(List UInt8)×Int->Option (((List UInt8)×Int)⊕(((List UInt8)×Int×Bool)))
 | (l,a)=>
   br (decide (a<b)) (
   (atL t a).bind fun x=>
   br (cP ((l++x).length) 1) (
   some (.inl ((l++x),(wrap .i64 (a+1))))) none) (
   some (.inr (l,a,decide (a<b))))
theorem X7 {t a}:LX tab ow (.close [6002]) Dk (oN t a) (fun s=>⟨[(3,.sl 2000 0 s.1.length),(10,sl (eL eU8) t),(11,I a),(12,I s.2)],[(2000,⟨1,false,rws eU8 s.1⟩)]⟩) (fun e=>(.exit 0,⟨[(3,.sl 2000 0 e.1.length),(10,sl (eL eU8) t),(11,I a),(12,I e.2.1),(13,B e.2.2)],[(2000,⟨1,false,rws eU8 e.1⟩)]⟩)):=by
 refine lrX (fun s o h=> ?_)
 obtain ⟨_,_⟩:=s
 simp only [oN] at h
 simp only [Dk]
 exact go2
def m4 (b:List UInt8):(List UInt8)->Option (((List UInt8))⊕(((List UInt8)×Bool)))
 |a=>
  br (((a.length:Int).tmod 136) !=0) (
  br (cP ((a++([(0:UInt8)]:List UInt8)).length) 1) (
  some (.inl (a++([(0:UInt8)]:List UInt8)))) none) (
  some (.inr (a,(((a.length:Int).tmod 136) !=0))))
abbrev Dh (a b:List UInt8):List (Nat×Blk):=[(2000,⟨1,false,rws eU8 b⟩),(8001,⟨1,false,rws eU8 a⟩)]
theorem YH {a}:LX tab ow (.close [10001,10002]) Cs (m4 a) (fun s=>⟨[(3,.sl 2000 0 s.length)],Dh a s⟩) (fun e=>(.exit 2,⟨[(3,.sl 2000 0 e.1.length),(26,B e.2)],Dh a e.1⟩)):=by
 refine lrX (fun s o h=> ?_)
 simp only [m4] at h
 simp only [Dh,Cs]
 exact go2
def ol (h c:List UInt8) (f:List Int):(List Int)×Int->Option (((List Int)×Int)⊕(((List Int)×Int×Bool)))
 | (b,a)=>
   br (decide (a<25)) (
   br (decide (0<=a)&&decide (a.toNat<25)) (
   (f[a.toNat]?).bind fun e=>
   br (decide (0<=a)&&decide (a.toNat<25)) (
   (b[a.toNat]?).bind fun d=>
   br (decide (0<=a)&&decide (a.toNat<25)) (
   br (decide (a.toNat<b.length)) (
   some (.inl ((b.set a.toNat (nk .u64 d e)),(wrap .i64 (a+1))))) none) none) none) none) (
   some (.inr (b,a,decide (a<25))))
abbrev D9 (a:List UInt8) (b:List Int):List (Nat×Blk):=[(8001,⟨1,false,rws eU8 a⟩),(12001,⟨25,true,[ar .u64 b]⟩)]
theorem WZ {b a c}:LX tab ow (.close []) Bc (ol b a c) (fun s=>⟨[(3,sl eU8 a),(6,.ptr 12001 0 0 1),(46,.agg (ar .u64 c)),(47,I s.2)],D9 b s.1⟩) (fun e=>(.exit 6,⟨[(3,sl eU8 a),(6,.ptr 12001 0 0 1),(46,.agg (ar .u64 c)),(47,I e.2.1),(48,B e.2.2)],D9 b e.1⟩)):=by
 refine lrX (fun s o h=> ?_)
 obtain ⟨_,_⟩:=s
 simp only [ol] at h
 simp only [D9,Bc]
 exact go2
def ox (d:List UInt8):(List Int)×(List UInt8)->Option (((List Int)×(List UInt8))⊕(((List Int)×(List UInt8)×Bool)))
 | (m,a)=>
   br (decide ((a.length:Int)>0)) (
   (lr a 0 136).bind fun y=>
   (BI y).bind fun f=>
   (Loop (ol d a f) (m,0)).bind fun b=>
   (mJ b.1).bind fun c=>
   (lr a 136 (a.length:Int)).bind fun e=>
   some (.inl (c,e))) (
   some (.inr (m,a,decide ((a.length:Int)>0))))
abbrev xg (a:List UInt8) (m:List Int):List (Nat×Blk):=[(8001,⟨1,false,rws eU8 a⟩),(12001,⟨25,true,[ar .u64 m]⟩)]
theorem Zn {a}:LX tab ow (.close [15002,20000,2000]) Be (ox a) (fun s=>⟨[(3,sl eU8 s.2),(6,.ptr 12001 0 0 1)],xg a s.1⟩) (fun e=>(.exit 4,⟨[(3,sl eU8 e.2.1),(6,.ptr 12001 0 0 1),(41,B e.2.2)],xg a e.1⟩)):=by
 refine lrX (fun s o h=> ?_)
 obtain ⟨_,_⟩:=s
 simp only [ox] at h
 simp only [xg,Be]
 have d1:= @a1Y
 have d2:= @WZ
 have d3:= @Ls
 exact go2
def s3 (b:(List (List UInt8))):Option (List UInt8):=
 (Loop (oN b (b.length:Int)) (([]:List UInt8),0)).bind fun e=>
 br (cP ((e.1++([(1:UInt8)]:List UInt8)).length) 1) (
 (Loop (m4 ([(1:UInt8)]:List UInt8)) (e.1++([(1:UInt8)]:List UInt8))).bind fun a=>
 br (decide (0<=(wrap .i64 ((a.1.length:Int)-1)))) (
 br (decide ((wrap .i64 ((a.1.length:Int)-1)).toNat<a.1.length)) (
 (a.1[(wrap .i64 ((a.1.length:Int)-1)).toNat]?).bind fun h=>
 br (decide (0<=(wrap .i64 ((a.1.length:Int)-1)))) (
 br (decide ((wrap .i64 ((a.1.length:Int)-1)).toNat<a.1.length)) (
 (a.1[(wrap .i64 ((a.1.length:Int)-1)).toNat]?).bind fun i=>
 (Loop (ox ([(1:UInt8)]:List UInt8)) ((nZ 25),(a.1.set ((wrap .i64 ((a.1.length:Int)-1)).toNat) (UInt8.ofInt (xz .u8 (h.toNat:Int) 128))))).bind fun d=>
 (sh d.1).bind fun c=>
 (lr c.1 0 32).bind fun f=>
 some f) none) none) none) none) none
theorem yB {a r} (h:s3 a=some r):Call tab ow 284 [sl (eL eU8) a] []=some (S r,[]):=by
 rw [aj (af:=CL) rfl]
 unfold s3 at h
 simp only [CL,Ti]
 have d1:= @X7
 have d2:= @YH
 have d3:= @Zn
 simp only [xg] at d3
 have d4:= @Q8
 exact go2
end
section
@[local go_sem] theorem c2l:mkR 2002 []=rws (eL eU8) []:=rfl
def Ck (t:List UInt8):Option (List UInt8):=
 br (cP t.length 1) (
 (s3 ([t]:List (List UInt8))).bind fun a=>
 some a) none
theorem Q6 {t r} (h:Ck t=some r):Call tab ow 168 [S t] []=some (S r,[]):=by
 rw [aj (af:=Du) rfl]
 unfold Ck at h
 simp only [Du,SR]
 have d1:= @yB
 exact go2
end
def GI (g:Gate) (a:Int):Option Bool:=
 br (g.Op==3) (
 (re g.K).bind fun r_=>
 (jB g.Op 1 8).bind fun z=>
 br z (
 br (g.A==0) (
 br (g.B==0) (
 some r_) (
 some false)) (
 some false)) (
 some false)) (
 br (g.Op==4) (
 br (g.Op==4) (
 (jB g.A 0 (wrap .i64 (a-1))).bind fun x=>
 (jB g.B 0 (wrap .i64 (a-1))).bind fun t=>
 (jB g.Op 1 8).bind fun w=>
 br w (
 br x (
 br t (
 some (g.K==0)) (
 some false)) (
 some false)) (
 some false)) (
 br (g.Op==8) (
 (jB g.A 0 (wrap .i64 (a-1))).bind fun y=>
 (jB g.Op 1 8).bind fun v=>
 br v (
 br y (
 br (g.B==0) (
 some (g.K==0)) (
 some false)) (
 some false)) (
 some false)) (
 (jB g.Op 1 8).bind fun u=>
 br u (
 br (g.A==0) (
 br (g.B==0) (
 some (g.K==0)) (
 some false)) (
 some false)) (
 some false)))) (
 br (g.Op==5) (
 br (g.Op==5) (
 (jB g.A 0 (wrap .i64 (a-1))).bind fun r_9=>
 (jB g.B 0 (wrap .i64 (a-1))).bind fun p=>
 (jB g.Op 1 8).bind fun s=>
 br s (
 br r_9 (
 br p (
 some (g.K==0)) (
 some false)) (
 some false)) (
 some false)) (
 br (g.Op==8) (
 (jB g.A 0 (wrap .i64 (a-1))).bind fun c=>
 (jB g.Op 1 8).bind fun k=>
 br k (
 br c (
 br (g.B==0) (
 some (g.K==0)) (
 some false)) (
 some false)) (
 some false)) (
 (jB g.Op 1 8).bind fun d=>
 br d (
 br (g.A==0) (
 br (g.B==0) (
 some (g.K==0)) (
 some false)) (
 some false)) (
 some false)))) (
 br (g.Op==6) (
 br (g.Op==6) (
 (jB g.A 0 (wrap .i64 (a-1))).bind fun l=>
 (jB g.B 0 (wrap .i64 (a-1))).bind fun f=>
 (jB g.Op 1 8).bind fun o=>
 br o (
 br l (
 br f (
 some (g.K==0)) (
 some false)) (
 some false)) (
 some false)) (
 br (g.Op==8) (
 (jB g.A 0 (wrap .i64 (a-1))).bind fun q=>
 (jB g.Op 1 8).bind fun n=>
 br n (
 br q (
 br (g.B==0) (
 some (g.K==0)) (
 some false)) (
 some false)) (
 some false)) (
 (jB g.Op 1 8).bind fun b=>
 br b (
 br (g.A==0) (
 br (g.B==0) (
 some (g.K==0)) (
 some false)) (
 some false)) (
 some false)))) (
 br (g.Op==7) (
 (jB g.A 0 (wrap .i64 (a-1))).bind fun i=>
 (jB g.B 0 (wrap .i64 (a-1))).bind fun j=>
 (jB g.Op 1 8).bind fun h=>
 br h (
 br i (
 br j (
 some (g.K==0)) (
 some false)) (
 some false)) (
 some false)) (
 br (g.Op==8) (
 (jB g.A 0 (wrap .i64 (a-1))).bind fun r=>
 (jB g.Op 1 8).bind fun m=>
 br m (
 br r (
 br (g.B==0) (
 some (g.K==0)) (
 some false)) (
 some false)) (
 some false)) (
 (jB g.Op 1 8).bind fun e=>
 br e (
 br (g.A==0) (
 br (g.B==0) (
 some (g.K==0)) (
 some false)) (
 some false)) (
 some false)))))))
theorem a5P {g a r} (h:GI g a=some r):Call tab ow 127 [.agg [I g.Op,I g.A,I g.B,I g.K],I a] []=some (B r,[]):=by
 rw [aj (af:=CG) rfl]
 unfold GI at h
 simp only [CG,PX]
 have d1:= @Gd
 have d2:= @yV
 exact go2
def fD (c:Int) (t:List Gate) (d:Int) (e:List Gate):Int×Int->Option ((Int×Int)⊕((Int×Int×Bool)))
 | (a,b)=>
   br (decide (b<d)) (
   (atL t b).bind fun x=>
   br (x.Op==c) (
   some (.inl ((wrap .i64 (a+1)),(wrap .i64 (b+1))))) (
   some (.inl (a,(wrap .i64 (b+1)))))) (
   some (.inr (a,b,decide (b<d))))
theorem ER {a t b c}:LX tab ow (.close [5002]) sP (fD a t b c) (fun s=>⟨[(1,I a),(5,I s.1),(9,sl eGate t),(10,I b),(11,I s.2)],[(1000,⟨1,true,[[sl eGate c]]⟩)]⟩) (fun e=>(.exit 0,⟨[(1,I a),(5,I e.1),(9,sl eGate t),(10,I b),(11,I e.2.1),(12,B e.2.2)],[(1000,⟨1,true,[[sl eGate c]]⟩)]⟩)):=by
 refine lrX (fun s o h=> ?_)
 obtain ⟨_,_⟩:=s
 simp only [fD] at h
 simp only [sP,sS]
 exact go2
def iB (c:Circuit) (b:Int):Option Int:=
 (Loop (fD b c.Gates (c.Gates.length:Int) c.Gates) (0,0)).bind fun a=>
 some a.1
theorem wz {c a r} (h:iB c a=some r):Call tab ow 128 [.agg [sl eGate c.Gates],I a] []=some (I r,[]):=by
 rw [aj (af:=kU) rfl]
 unfold iB at h
 simp only [kU,pq]
 have d1:= @ER
 exact go2
def fJ (t:List Gate) (c:Int) (d:List Gate):Int->Option ((Int)⊕((Int×Int×Int×Int)⊕(Int×Bool)))
 |a=>
  br (decide (a<c)) (
  (atL t a).bind fun x=>
  (GI x a).bind fun b=>
  br (!b) (
  some (.inr (.inl (x.Op,x.A,x.B,x.K)))) (
  some (.inl (wrap .i64 (a+1))))) (
  some (.inr (.inr (a,decide (a<c)))))
theorem OG {t b a}:LX tab ow (.close [6003,7002]) E9 (fJ t b a) (fun s=>⟨[(1,.ptr 1000 0 0 1),(11,sl eGate t),(12,I b),(13,I s)],[(1000,⟨1,true,[[sl eGate a]]⟩)]⟩) (alt (fun e=>((.ret,⟨[(2,B false)],[(1000,⟨1,true,[[sl eGate a]]⟩),(6003,⟨4,true,[[I e.1,I e.2.1,I e.2.2.1,I e.2.2.2]]⟩)]⟩):bR×St)) (fun e=>(.exit 0,⟨[(1,.ptr 1000 0 0 1),(11,sl eGate t),(12,I b),(13,I e.1),(14,B e.2)],[(1000,⟨1,true,[[sl eGate a]]⟩)]⟩))):=by
 refine lrX (fun s o h=> ?_)
 simp only [fJ] at h
 simp only [E9,Ev]
 have d1:= @a5P
 exact go2
def ve (c:Circuit):Option Bool:=
 (jB (c.Gates.length:Int) 1 15).bind fun d=>
 br (!d) (
 some false) (
 (Loop (fJ c.Gates (c.Gates.length:Int) c.Gates) 0).bind (alt (fun b=>
 some false) (fun e=>
 (iB c 2).bind fun a=>
 some (decide (a<=7)))))
theorem TV {c r} (h:ve c=some r):Call tab ow 36 [.agg [sl eGate c.Gates]] []=some (B r,[]):=by
 rw [aj (af:=uN) rfl]
 unfold ve at h
 simp only [uN,B1]
 have d1:= @yV
 have d2:= @OG
 have d3:= @wz
 exact go2
def iV (x:Int):Option Bool:=
 (re x).bind fun a=>
 some (!a)
theorem EQ {x r} (h:iV x=some r):Call tab ow 248 [I x,.ptr 0 0 0 1] [⟨1,true,[[.fn 132 []]]⟩]=some (B r,[⟨1,true,[[.fn 132 []]]⟩]):=by
 rw [aj (af:=tU) rfl]
 unfold iV at h
 simp only [tU,I6]
 have d1:= @Gd
 exact go2
def cH (c:List Int) (t:Int):Int->Option ((Int)⊕(Int⊕(Int×Bool)))
 |a=>
  br (decide (a<t)) (
  (atL c a).bind fun x=>
  (iV x).bind fun b=>
  br b (
  some (.inr (.inl a))) (
  some (.inl (wrap .i64 (a+1))))) (
  some (.inr (.inr (a,decide (a<t)))))
theorem ky {a t}:LX tab ow (.close [5005]) lY (cH a t) (fun s=>⟨[(0,sl eI a),(1,.fn 248 [.ptr 0 0 0 1]),(7,I t),(8,I s)],[(0,⟨1,true,[[.fn 132 []]]⟩)]⟩) (alt (fun e=>((.ret,⟨[(4,I e)],[(0,⟨1,true,[[.fn 132 []]]⟩)]⟩):bR×St)) (fun e=>(.exit 0,⟨[(0,sl eI a),(1,.fn 248 [.ptr 0 0 0 1]),(7,I t),(8,I e.1),(9,B e.2)],[(0,⟨1,true,[[.fn 132 []]]⟩)]⟩))):=by
 refine lrX (fun s o h=> ?_)
 simp only [cH] at h
 simp only [lY,lX]
 have d1:= @EQ
 exact go2
def cV (s:List Int):Option Int:=
 (Loop (cH s (s.length:Int)) 0).bind (alt (fun a=>
 some a) (fun b=>
 some (-1:Int)))
theorem kP {s r} (h:cV s=some r):Call tab ow 335 [sl eI s,.fn 248 [.ptr 0 0 0 1]] [⟨1,true,[[.fn 132 []]]⟩]=some (I r,[⟨1,true,[[.fn 132 []]]⟩]):=by
 rw [aj (af:=ga) rfl]
 unfold cV at h
 simp only [ga,j9]
 have d1:= @ky
 exact go2
def cL (s:List Int):Option Bool:=
 (cV s).bind fun a=>
 some (decide (a>=0))
theorem jV {s r} (h:cL s=some r):Call tab ow 247 [sl eI s,.fn 248 [.ptr 0 0 0 1]] [⟨1,true,[[.fn 132 []]]⟩]=some (B r,[⟨1,true,[[.fn 132 []]]⟩]):=by
 rw [aj (af:=fc) rfl]
 unfold cL at h
 simp only [fc,ll]
 have d1:= @kP
 exact go2
def ka (a:List Int):Option Bool:=
 (cL a).bind fun b=>
 some (!b)
theorem Hy {a r} (h:ka a=some r):Call tab ow 131 [.fn 132 [],sl eI a] []=some (B r,[]):=by
 rw [aj (af:=zT) rfl]
 unfold ka at h
 simp only [zT,O4]
 have d1:= @jV
 exact go2
def nW (t:Setting):Option Bool:=
 (jB t.Rate 1 3).bind fun c=>
 br c (
 (jB t.Queries 1 8).bind fun a=>
 br a (
 (jB t.Grind 0 12).bind fun b=>
 some b) (
 some false)) (
 some false)
theorem AT {t r} (h:nW t=some r):Call tab ow 77 [.agg [I t.Rate,I t.Queries,I t.Grind]] []=some (B r,[]):=by
 rw [aj (af:=u6) rfl]
 unfold nW at h
 simp only [u6,HP]
 have d1:= @yV
 exact go2
def uY (a:List UInt8):Option Bool:=
 some ((a.length:Int)==32)
theorem CR {a r} (h:uY a=some r):Call tab ow 119 [S a] []=some (B r,[]):=by
 rw [aj (af:=CD) rfl]
 unfold uY at h
 simp only [CD,Rq]
 exact go2
def yz (s:Source):Option Bool:=
 br (decide ((s.Script.length:Int)<=64)) (
 (gx s.Script).bind fun d=>
 br d (
 (uY s.State).bind fun a=>
 br a (
 (jB s.At 0 1000000).bind fun b=>
 br b (
 (jB s.Count 0 1000000).bind fun c=>
 some c) (
 some false)) (
 some false)) (
 some false)) (
 some false)
theorem YM {s r} (h:yz s=some r):Call tab ow 78 [.agg [sl eExt s.Script,I s.At,S s.State,I s.Count]] []=some (B r,[]):=by
 rw [aj (af:=wX) rfl]
 unfold yz at h
 simp only [wX,Kc]
 have d1:= @pg
 have d2:= @CR
 have d3:= @yV
 exact go2
def uR (s:Source):Option Int:=
 some (wrap .i64 (1000000-(mx s.At s.Count)))
theorem P8 {s r} (h:uR s=some r):Call tab ow 79 [.agg [sl eExt s.Script,I s.At,S s.State,I s.Count]] []=some (I r,[]):=by
 rw [aj (af:=pQ) rfl]
 unfold uR at h
 simp only [pQ,Es]
 exact go2
def Lq (a b:Int):Option Int:=
 some ((wrap .i64 (a+b)).tmod 2130706433)
theorem Y9 {a b r} (h:Lq a b=some r):Call tab ow 164 [I a,I b] []=some (I r,[]):=by
 rw [aj (af:=Pe) rfl]
 unfold Lq at h
 simp only [Pe,a7x]
 exact go2
def QY (a b:Int):Option Int:=
 some ((wrap .i64 ((wrap .i64 (a-b))+2130706433)).tmod 2130706433)
theorem a6W {a b r} (h:QY a b=some r):Call tab ow 170 [I a,I b] []=some (I r,[]):=by
 rw [aj (af:=Pj) rfl]
 unfold QY at h
 simp only [Pj,a7f]
 exact go2
def yE (a b:Int):Option Int:=
 some ((wrap .i64 (a*b)).tmod 2130706433)
theorem Pq {a b r} (h:yE a b=some r):Call tab ow 171 [I a,I b] []=some (I r,[]):=by
 rw [aj (af:=Po) rfl]
 unfold yE at h
 simp only [Po,a7t]
 exact go2
def eX (s:bi):Option Int:=
 br (decide (0<=(wrap .i64 (s.Cols-1)))) (
 some (bC .i64 1 (wrap .i64 (s.Cols-1)))) none
theorem mz {s r} (h:eX s=some r):Call tab ow 133 [.agg [I s.Rows,I s.Cols,I s.Publics,sl aA s.A,sl aA s.B,sl aA s.C]] []=some (I r,[]):=by
 rw [aj (af:=qj) rfl]
 unfold eX at h
 simp only [qj,EB]
 exact go2
def dn (h j:List Tri) (t i:Int) (f:List (Int×Int)) (d c:Int):(List Tri)×Int->Option (((List Tri)×Int)⊕(((List Tri)×Int×Bool)))
 | (b,a)=>
   br (decide (a<d)) (
   (atL f a).bind fun x=>
   (Lq (i7 c x.1 b) x.2).bind fun e=>
   some (.inl ((iw c x.1 e b),(wrap .i64 (a+1))))) (
   some (.inr (b,a,decide (a<d))))
abbrev wo (a d:List Tri) (c:Int) (b:List Tri):List (Nat×Blk):=[(0,⟨4,true,[[I c,.mp 1,.mp 2,.mp 3]]⟩),(1,⟨0,true,[bz b]⟩),(2,⟨0,true,[bz a]⟩),(3,⟨0,true,[bz d]⟩)]
theorem OH {a d t b f i c}:LX tab ow (.close [3002,4007,5013]) Ec (dn a d t b f i c) (fun s=>⟨[(0,.ptr 0 0 0 1),(2,I t),(3,I b),(11,sl (eA2 eI) f),(12,I i),(13,I s.2)],wo a d c s.1⟩) (fun e=>(.exit 0,⟨[(0,.ptr 0 0 0 1),(2,I t),(3,I b),(11,sl (eA2 eI) f),(12,I i),(13,I e.2.1),(14,B e.2.2)],wo a d c e.1⟩)):=by
 refine lrX (fun s o h=> ?_)
 obtain ⟨_,_⟩:=s
 simp only [dn] at h
 simp only [wo,Ec,Ei]
 have d1:= @Y9
 exact go2
def dQ (a:(List (Int×Int))) (c d m:Int) (f e b:List Tri):Option (Int×(List Tri)×(List Tri)×(List Tri)):=
 (Loop (dn e b c d a (a.length:Int) m) (f,0)).bind fun h=>
 some ((wrap .i64 (m+1)),h.1,(iw m c 1 e),(iw m d 1 b))
theorem US {a d e m c f b r} (h:dQ a d e m c f b=some r):Call tab ow 286 [.ptr 0 0 0 1,sl (eA2 eI) a,I d,I e] [⟨4,true,[[I m,.mp 1,.mp 2,.mp 3]]⟩,⟨0,true,[bz c]⟩,⟨0,true,[bz f]⟩,⟨0,true,[bz b]⟩]=some (.tup [],[⟨4,true,[[I r.1,.mp 1,.mp 2,.mp 3]]⟩,⟨0,true,[bz r.2.1]⟩,⟨0,true,[bz r.2.2.1]⟩,⟨0,true,[bz r.2.2.2]⟩]):=by
 rw [aj (af:=ub) rfl]
 unfold dQ at h
 simp only [ub,AA]
 have d1:= @OH
 exact go2
section
@[local go_sem] theorem a7A:mkR 2006 []=rws (eA2 eI) []:=rfl
def dH (a b:Int) (m:List Int):Option ((List (Int×Int))):=
 (atL m a).bind fun x=>
 some ([(x,b)]:List (Int×Int))
theorem Mp {a b m r} (h:dH a b m=some r):Call tab ow 285 [I a,I b,.ptr 0 0 0 1] [⟨1,true,[[sl eI m]]⟩]=some (.sl 1 0 r.length,[⟨1,true,[[sl eI m]]⟩,⟨2,false,rws (eA2 eI) r⟩]):=by
 rw [aj (af:=oV) rfl]
 unfold dH at h
 simp only [oV,BO]
 exact go2
end
section
@[local go_sem] theorem b1m:mkR 5004 []=rws (eA2 eI) []:=rfl
def sv (a:Gate) (k:Int) (f:List Int) (m:Int) (o n l:List Tri):Option (Int×(List Tri)×(List Tri)×(List Tri)):=
 br (a.Op==3) (
 (dQ ([(0,a.K)]:List (Int×Int)) 0 k m o n l).bind fun y=>
 some (y.1,y.2.1,y.2.2.1,y.2.2.2)) (
 br (a.Op==4) (
 (dH a.A 1 f).bind fun v=>
 (dH a.B 1 f).bind fun t=>
 br (cP ((v++t).length) 16) (
 (dQ (v++t) 0 k m o n l).bind fun h=>
 some (h.1,h.2.1,h.2.2.1,h.2.2.2)) none) (
 br (a.Op==5) (
 (dH a.A 1 f).bind fun r=>
 (dH a.B 2130706432 f).bind fun u=>
 br (cP ((r++u).length) 16) (
 (dQ (r++u) 0 k m o n l).bind fun i=>
 some (i.1,i.2.1,i.2.2.1,i.2.2.2)) none) (
 br (a.Op==6) (
 (dH a.A 1 f).bind fun z=>
 (atL f a.B).bind fun x=>
 (dQ z x k m o n l).bind fun j=>
 some (j.1,j.2.1,j.2.2.1,j.2.2.2)) (
 br (a.Op==7) (
 (dH a.B 1 f).bind fun w=>
 (dQ w 0 k m o n l).bind fun e=>
 (dH a.A 1 f).bind fun p=>
 (dQ p 0 k e.1 e.2.1 e.2.2.1 e.2.2.2).bind fun b=>
 some (b.1,b.2.1,b.2.2.1,b.2.2.2)) (
 br (a.Op==8) (
 (dH a.A 1 f).bind fun q=>
 (atL f a.A).bind fun x2=>
 (dQ q x2 k m o n l).bind fun c=>
 (dH a.A 1 f).bind fun s=>
 (dQ s 0 k c.1 c.2.1 c.2.2.1 c.2.2.2).bind fun d=>
 some (d.1,d.2.1,d.2.2.1,d.2.2.2)) (
 some (m,o,n,l)))))))
theorem SW {a d e m c f b r} (h:sv a d e m c f b=some r):Call tab ow 172 [.ptr 0 0 0 1,.agg [I a.Op,I a.A,I a.B,I a.K],I d,sl eI e] [⟨4,true,[[I m,.mp 1,.mp 2,.mp 3]]⟩,⟨0,true,[bz c]⟩,⟨0,true,[bz f]⟩,⟨0,true,[bz b]⟩]=some (.tup [],[⟨4,true,[[I r.1,.mp 1,.mp 2,.mp 3]]⟩,⟨0,true,[bz r.2.1]⟩,⟨0,true,[bz r.2.2.1]⟩,⟨0,true,[bz r.2.2.2]⟩]):=by
 rw [aj (af:=rU) rfl]
 unfold sv at h
 simp only [rU,Gb]
 have d1:= @US
 have d2:= @Mp
 exact go2
end
def zK (t:Tri):au:=⟨t.1,t.2.1,t.2.2⟩
def tr (m:List Tri):Option (List au×List Tri):=
 br (mH m&&decide (m.length<1073741824)) (
 some ((fW (m.filter nzT)).map zK,m)) none
theorem a0E {m r} (h:tr m=some r):Call tab ow 173 [.mp 0] [⟨0,true,[bz m]⟩]=some (sl aA r.1,[⟨0,true,[bz r.2]⟩]):=by
 unfold tr at h
 obtain ⟨hb,h⟩:=brg h
 cases h
 rw [QL (g:=a3P false) rfl]
 exact c1C aA zK rfl (fun _=>rfl) hb
section
@[local go_sem] theorem a3M:mkR 6000 []=rws eI []:=rfl
@[local go_sem] theorem a3K:mkR 11002 []=rws eI []:=rfl
@[local go_sem] theorem a3L:mkR 12002 []=rws eI []:=rfl
def eH (t:Int) (c:List Gate) (h i f e d:Int):Int->Option ((Int)⊕((Bool×Int)))
 |b=>
  (eX (bi.mk e b d ([]:List au) ([]:List au) ([]:List au))).bind fun a=>
  br (decide (a<(mx (wrap .i64 (d+1)) t))) (
  some (.inl (wrap .i64 (b+1)))) (
  some (.inr (decide (a<(mx (wrap .i64 (d+1)) t)),b)))
abbrev ob (c:List Gate) (f h b e d a:Int):List (Nat×Blk):=[(1000,⟨1,true,[[sl eGate c]]⟩),(1001,⟨6,true,[[I f,I h,I b,.lit (.slice none 0 0),.lit (.slice none 0 0),.lit (.slice none 0 0)]]⟩),(2003,⟨6,true,[[I e,I a,I d,.lit (.slice none 0 0),.lit (.slice none 0 0),.lit (.slice none 0 0)]]⟩)]
theorem EY {t c f i a d b}:LX tab ow (.close [4001]) w5 (eH t c f i a d b) (fun s=>⟨[(1,.ptr 1000 0 0 1),(2,.ptr 1001 0 0 1),(3,.ptr 2003 0 0 1),(4,I t)],ob c f i a d b s⟩) (fun e=>(.exit 0,⟨[(1,.ptr 1000 0 0 1),(2,.ptr 1001 0 0 1),(3,.ptr 2003 0 0 1),(4,I t),(29,B e.1)],ob c f i a d b e.2⟩)):=by
 refine lrX (fun s o h=> ?_)
 simp only [eH] at h
 simp only [ob,w5,vo]
 have d1:= @mz
 exact go2
def eV (k:List Gate) (d:Int) (m:List Gate) (n j h i e f:Int):(List Int)×Int×Int×Int->Option (((List Int)×Int×Int×Int)⊕(((List Int)×Int×Int×Int×Bool)))
 | (l,b,c,a)=>
   br (decide (a<d)) (
   (atL k a).bind fun x=>
   br (x.Op==2) (
   br (cP ((l++([b]:List Int)).length) 8) (
   some (.inl ((l++([b]:List Int)),(wrap .i64 (b+1)),c,(wrap .i64 (a+1))))) none) (
   br (cP ((l++([c]:List Int)).length) 8) (
   some (.inl ((l++([c]:List Int)),b,(wrap .i64 (c+1)),(wrap .i64 (a+1))))) none)) (
   some (.inr (l,b,c,a,decide (a<d))))
abbrev nO (f:List Gate) (h e c d a b:Int) (l:List Int):List (Nat×Blk):=[(1000,⟨1,true,[[sl eGate f]]⟩),(1001,⟨6,true,[[I h,I e,I c,.lit (.slice none 0 0),.lit (.slice none 0 0),.lit (.slice none 0 0)]]⟩),(2003,⟨6,true,[[I d,I a,I b,.lit (.slice none 0 0),.lit (.slice none 0 0),.lit (.slice none 0 0)]]⟩),(6000,⟨1,false,rws eI l⟩)]
theorem Gr {l i j k f c d a b}:LX tab ow (.close [9002,11002,11003,12002,12003]) vS (eV l i j k f c d a b) (fun s=>⟨[(1,.ptr 1000 0 0 1),(2,.ptr 1001 0 0 1),(3,.ptr 2003 0 0 1),(5,.sl 6000 0 s.1.length),(6,I s.2.1),(7,I s.2.2.1),(38,sl eGate l),(39,I i),(40,I s.2.2.2)],nO j k f c d a b s.1⟩) (fun e=>(.exit 2,⟨[(1,.ptr 1000 0 0 1),(2,.ptr 1001 0 0 1),(3,.ptr 2003 0 0 1),(5,.sl 6000 0 e.1.length),(6,I e.2.1),(7,I e.2.2.1),(38,sl eGate l),(39,I i),(40,I e.2.2.2.1),(41,B e.2.2.2.2)],nO j k f c d a b e.1⟩)):=by
 refine lrX (fun s o h=> ?_)
 obtain ⟨_,_,_,_⟩:=s
 simp only [eV] at h
 simp only [nO,vS,vi]
 exact go2
def fY (d:List Int) (o:List Gate) (f:Int) (k:List Gate) (i j n q s p:Int):(List Tri)×(List Tri)×(List Tri)×Int×Int->Option (((List Tri)×(List Tri)×(List Tri)×Int×Int)⊕(((List Tri)×(List Tri)×(List Tri)×Int×Bool×Int)))
 | (m,e,h,b,c)=>
   br (decide (b<f)) (
   (atL o b).bind fun r=>
   br (decide (0<=b)) (
   br (decide (b.toNat<d.length)) (
   (d[b.toNat]?).bind fun l=>
   (sv r l d c m e h).bind fun a=>
   some (.inl (a.2.1,a.2.2.1,a.2.2.2,(wrap .i64 (b+1)),a.1))) none) none) (
   some (.inr (m,e,h,b,decide (b<f),c)))
abbrev nS (k:List Int) (c:List Gate) (a b e h i f:Int) (m j l:List Tri) (d:Int):List (Nat×Blk):=[(1000,⟨1,true,[[sl eGate c]]⟩),(1001,⟨6,true,[[I a,I b,I e,.lit (.slice none 0 0),.lit (.slice none 0 0),.lit (.slice none 0 0)]]⟩),(2003,⟨6,true,[[I h,I i,I f,.lit (.slice none 0 0),.lit (.slice none 0 0),.lit (.slice none 0 0)]]⟩),(6000,⟨1,false,rws eI k⟩),(14000,⟨0,true,[bz m]⟩),(14001,⟨0,true,[bz j]⟩),(14002,⟨0,true,[bz l]⟩),(14004,⟨4,true,[[I d,.mp 14000,.mp 14001,.mp 14002]]⟩)]
theorem Fe {k m l b a c d i j f}:LX tab ow (.close [17003,18007]) sM (fY k m l b a c d i j f) (fun s=>⟨[(2,.ptr 1001 0 0 1),(3,.ptr 2003 0 0 1),(5,.sl 6000 0 k.length),(10,.ptr 14004 0 0 1),(66,sl eGate m),(67,I l),(68,I s.2.2.2.1)],nS k b a c d i j f s.1 s.2.1 s.2.2.1 s.2.2.2.2⟩) (fun e=>(.exit 4,⟨[(2,.ptr 1001 0 0 1),(3,.ptr 2003 0 0 1),(5,.sl 6000 0 k.length),(10,.ptr 14004 0 0 1),(66,sl eGate m),(67,I l),(68,I e.2.2.2.1),(69,B e.2.2.2.2.1)],nS k b a c d i j f e.1 e.2.1 e.2.2.1 e.2.2.2.2.2⟩)):=by
 refine lrX (fun s o h=> ?_)
 obtain ⟨_,_,_,_,_⟩:=s
 simp only [fY] at h
 simp only [nS,sM,sU]
 have d1:= @SW
 exact go2
def ke (q:List Int) (n o p:List Tri) (f:List Gate) (m c:Int) (i:Bool) (d:List Gate) (e j h k l b:Int):Int->Option ((Int)⊕((Bool×Int)))
 |a=>
  br (decide (0<=a)) (
  br (decide ((bC .i64 1 a)<b)) (
  some (.inl (wrap .i64 (a+1)))) (
  some (.inr (decide ((bC .i64 1 a)<b),a)))) none
abbrev nY (m:List Int) (j k l:List Tri) (a:List Gate) (c e d h i f b:Int):List (Nat×Blk):=[(1000,⟨1,true,[[sl eGate a]]⟩),(1001,⟨6,true,[[I c,I e,I d,.lit (.slice none 0 0),.lit (.slice none 0 0),.lit (.slice none 0 0)]]⟩),(2003,⟨6,true,[[I b,I h,I i,.lit (.slice none 0 0),.lit (.slice none 0 0),.lit (.slice none 0 0)]]⟩),(6000,⟨1,false,rws eI m⟩),(14000,⟨0,true,[bz j]⟩),(14001,⟨0,true,[bz k]⟩),(14002,⟨0,true,[bz l]⟩),(14004,⟨4,true,[[I f,.mp 14000,.mp 14001,.mp 14002]]⟩)]
theorem GG {p q r t d n a i b c j f l m k}:LX tab ow (.close []) sT (ke p q r t d n a i b c j f l m k) (fun s=>⟨[(2,.ptr 1001 0 0 1),(3,.ptr 2003 0 0 1),(5,.sl 6000 0 p.length),(10,.ptr 14004 0 0 1),(66,sl eGate d),(67,I n),(68,I a),(69,B i)],nY p q r t b c j f l m k s⟩) (fun e=>(.exit 6,⟨[(2,.ptr 1001 0 0 1),(3,.ptr 2003 0 0 1),(5,.sl 6000 0 p.length),(10,.ptr 14004 0 0 1),(66,sl eGate d),(67,I n),(68,I a),(69,B i),(89,B e.1)],nY p q r t b c j f l m k e.2⟩)):=by
 refine lrX (fun s o h=> ?_)
 simp only [ke] at h
 simp only [nY,sT,sR]
 exact go2
def lQ (a:Circuit):Option bi:=
 (iB a 2).bind fun c=>
 (Loop (eH (wrap .i64 ((a.Gates.length:Int)-c)) a.Gates 0 0 0 1 c) 2).bind fun d=>
 (eX (bi.mk 1 d.2 c ([]:List au) ([]:List au) ([]:List au))).bind fun f=>
 (Loop (eV a.Gates (a.Gates.length:Int) a.Gates 0 0 0 1 d.2 c) (([]:List Int),1,f,0)).bind fun e=>
 (Loop (fY e.1 a.Gates (a.Gates.length:Int) a.Gates 0 0 0 1 d.2 c) (([]:List Tri),([]:List Tri),([]:List Tri),0,0)).bind fun b=>
 (Loop (ke e.1 b.1 b.2.1 b.2.2.1 a.Gates (a.Gates.length:Int) b.2.2.2.1 b.2.2.2.2.1 a.Gates 0 0 0 d.2 c b.2.2.2.2.2) 1).bind fun h=>
 (tr b.1).bind fun j=>
 (tr b.2.1).bind fun k=>
 (tr b.2.2.1).bind fun i=>
 some (bi.mk h.2 d.2 c j.1 k.1 i.1)
theorem Jo {a r} (h:lQ a=some r):Call tab ow 81 [.agg [sl eGate a.Gates]] []=some (.agg [I r.Rows,I r.Cols,I r.Publics,sl aA r.A,sl aA r.B,sl aA r.C],[]):=by
 rw [aj (af:=mr) rfl]
 unfold lQ at h
 simp only [mr,i9]
 have d1:= @wz
 have d2:= @EY
 have d3:= @mz
 have d4:= @Gr
 have d5:= @Fe
 have d6:= @GG
 have d7:= @a0E
 exact go2
end
section
@[local go_sem] theorem a6h: ∀k,Bi 2003 k [I (0:Int)]=rws eI (List.replicate k (0:Int)):=fun _=>MD eI (0:Int) _ _
def mD (s:bi) (b a:List Int):Option (List Int):=
 br (decide (0<=s.Cols)) (
 br (zf (bC .i64 1 s.Cols) (bC .i64 1 s.Cols) 8) (
 br (decide (0<(List.replicate ((bC .i64 (1:Int) s.Cols).toNat) (0:Int)).length)) (
 ((List.replicate ((bC .i64 (1:Int) s.Cols).toNat) (0:Int))[0]?).bind fun x=>
 br (decide ((1:Int)<=(((List.replicate ((bC .i64 (1:Int) s.Cols).toNat) (0:Int)).length:Nat):Int))) (
 br (decide (1+((List.replicate ((bC .i64 (1:Int) s.Cols).toNat) (0:Int)).length-1)=(List.replicate ((bC .i64 (1:Int) s.Cols).toNat) (0:Int)).length)) (
 (eX s).bind fun c=>
 br (decide (0<=c)&&decide (c<=(((List.replicate ((bC .i64 (1:Int) s.Cols).toNat) (0:Int)).length:Nat):Int))) (
 br (decide (c.toNat+((List.replicate ((bC .i64 (1:Int) s.Cols).toNat) (0:Int)).length-c.toNat)=(List.replicate ((bC .i64 (1:Int) s.Cols).toNat) (0:Int)).length)) (
 some (BL (BL ((List.replicate ((bC .i64 (1:Int) s.Cols).toNat) (0:Int)).set 0 (1:Int)) 1 (min b.length ((List.replicate ((bC .i64 (1:Int) s.Cols).toNat) (0:Int)).length-1)) b) c.toNat (min a.length ((List.replicate ((bC .i64 (1:Int) s.Cols).toNat) (0:Int)).length-c.toNat)) a)) none) none) none) none) none) none) none
theorem Ku {s b a r} (h:mD s b a=some r):Call tab ow 83 [.agg [I s.Rows,I s.Cols,I s.Publics,sl aA s.A,sl aA s.B,sl aA s.C],sl eI b,sl eI a] []=some (sl eI r,[]):=by
 rw [aj (af:=nj) rfl]
 unfold mD at h
 simp only [nj,A8]
 have d1:= @mz
 exact go2
end
def mL (s:Source):Option Source:=
 (hJ s.Script).bind fun a=>
 some (Source.mk a s.At s.State s.Count)
theorem Lm {s r} (h:mL s=some r):Call tab ow 112 [.agg [sl eExt s.Script,I s.At,S s.State,I s.Count]] []=some (.agg [sl eExt r.Script,I r.At,S r.State,I r.Count],[]):=by
 rw [aj (af:=ng) rfl]
 unfold mL at h
 simp only [ng,zQ]
 have d1:= @xl
 exact go2
section
@[local go_sem] theorem c6u:mkR 2000 []=rws eExt []:=rfl
@[local go_sem] theorem c6r:mkR 6003 []=rws eExt []:=rfl
def sX (t:List Int) (b:Int):(List Ext)×Int->Option (((List Ext)×Int)⊕(((List Ext)×Int×Bool)))
 | (l,a)=>
   br (decide (a<b)) (
   (atL t a).bind fun x=>
   br (cP ((l++([(Ext.mk x 0)]:List Ext)).length) 16) (
   some (.inl ((l++([(Ext.mk x 0)]:List Ext)),(wrap .i64 (a+1))))) none) (
   some (.inr (l,a,decide (a<b))))
theorem a4S {t a}:LX tab ow (.close [6003,6004]) Qh (sX t a) (fun s=>⟨[(3,.sl 2000 0 s.1.length),(7,sl eI t),(8,I a),(9,I s.2)],[(2000,⟨2,false,rws eExt s.1⟩)]⟩) (fun e=>(.exit 0,⟨[(3,.sl 2000 0 e.1.length),(7,sl eI t),(8,I a),(9,I e.2.1),(10,B e.2.2)],[(2000,⟨2,false,rws eExt e.1⟩)]⟩)):=by
 refine lrX (fun s o h=> ?_)
 obtain ⟨_,_⟩:=s
 simp only [sX] at h
 simp only [Qh,Qw]
 exact go2
def SK (a:List Int):Option (List Ext):=
 (Loop (sX a (a.length:Int)) (([]:List Ext),0)).bind fun b=>
 some b.1
theorem b1Z {a r} (h:SK a=some r):Call tab ow 289 [sl eI a] []=some (sl eExt r,[]):=by
 rw [aj (af:=LP) rfl]
 unfold SK at h
 simp only [LP,S7]
 have d1:= @a4S
 exact go2
end
def ft (s:bi):Option (((List au)×(List au)×(List au))):=
 some (s.A,s.B,s.C)
theorem pr {s r} (h:ft s=some r):Call tab ow 177 [.agg [I s.Rows,I s.Cols,I s.Publics,sl aA s.A,sl aA s.B,sl aA s.C]] []=some (.agg [sl aA r.1,sl aA r.2.1,sl aA r.2.2],[]):=by
 rw [aj (af:=kS) rfl]
 unfold ft at h
 simp only [kS,wB]
 exact go2
section
@[local go_sem] theorem c1Q:mkR 2012 []=rws eU8 []:=rfl
def l7 (n:Int) (l:List UInt8):Option (List UInt8):=
 br (cP ((l++([(UInt8.ofInt (bW .i64 n 24)),(UInt8.ofInt (bW .i64 n 16)),(UInt8.ofInt (bW .i64 n 8)),(UInt8.ofInt n)]:List UInt8)).length) 1) (
 some (l++([(UInt8.ofInt (bW .i64 n 24)),(UInt8.ofInt (bW .i64 n 16)),(UInt8.ofInt (bW .i64 n 8)),(UInt8.ofInt n)]:List UInt8))) none
theorem od {n l r} (h:l7 n l=some r):Call tab ow 225 [.sl 0 0 l.length,I n] [⟨1,false,rws eU8 l⟩]=some (.sl 0 0 r.length,[⟨1,false,rws eU8 r⟩]):=by
 rw [aj (af:=Cc) rfl]
 unfold l7 at h
 simp only [Cc,RH]
 exact go2
end
section
@[local go_sem] theorem ZT:mkR 2000 []=rws eU8 []:=rfl
@[local go_sem] theorem Zf:mkR 2011 []=rws eU8 []:=rfl
@[local go_sem] theorem Xs:mkR 10007 []=rws eU8 []:=rfl
def dI (i:List UInt8) (t j o:List au) (p:Int) (e:List au) (d c k n:Int) (h m f:List au):(List UInt8)×Int->Option (((List UInt8)×Int)⊕(((List UInt8)×Int×Bool)))
 | (l,a)=>
   br (decide (a<d)) (
   (atL e a).bind fun x=>
   br (cP ((l++([(UInt8.ofInt x.Row),(UInt8.ofInt x.Col)]:List UInt8)).length) 1) (
   (l7 x.Value (l++([(UInt8.ofInt x.Row),(UInt8.ofInt x.Col)]:List UInt8))).bind fun b=>
   some (.inl (b,(wrap .i64 (a+1))))) none) (
   some (.inr (l,a,decide (a<d))))
abbrev lu (d:List UInt8) (c f h:Int) (b e a:List au) (l:List UInt8):List (Nat×Blk):=[(1000,⟨6,true,[[I c,I f,I h,sl aA b,sl aA e,sl aA a]]⟩),(2000,⟨1,false,rws eU8 l⟩),(2011,⟨1,false,rws eU8 d⟩)]
theorem BN {i t j n p a b c k m f l d}:LX tab ow (.close [9002,10007,10008,10011]) ep (dI i t j n p a b c k m f l d) (fun s=>⟨[(3,.sl 2000 0 s.1.length),(22,.agg [sl aA t,sl aA j,sl aA n]),(23,I p),(30,sl aA a),(31,I b),(32,I s.2)],lu i c k m f l d s.1⟩) (fun e=>(.exit 2,⟨[(3,.sl 2000 0 e.1.length),(22,.agg [sl aA t,sl aA j,sl aA n]),(23,I p),(30,sl aA a),(31,I b),(32,I e.2.1),(33,B e.2.2)],lu i c k m f l d e.1⟩)):=by
 refine lrX (fun s o h=> ?_)
 obtain ⟨_,_⟩:=s
 simp only [dI] at h
 simp only [lu,ep,iG]
 have d1:= @od
 exact go2
def iH (n:List UInt8) (q m i:List au) (h:Int) (d:List au) (b o p r:Int) (l k j:List au):(List UInt8)×Int->Option (((List UInt8)×Int)⊕(((List UInt8)×Int×Bool)))
 | (e,a)=>
   br (decide (a<b)) (
   (atL d a).bind fun c=>
   br (cP ((e++([(UInt8.ofInt c.Row),(UInt8.ofInt c.Col)]:List UInt8)).length) 1) (
   (l7 c.Value (e++([(UInt8.ofInt c.Row),(UInt8.ofInt c.Col)]:List UInt8))).bind fun f=>
   some (.inl (f,(wrap .i64 (a+1))))) none) (
   some (.inr (e,a,decide (a<b))))
abbrev kX (d:List UInt8) (h e i:Int) (c a b:List au) (f:List UInt8):List (Nat×Blk):=[(1000,⟨6,true,[[I h,I e,I i,sl aA c,sl aA a,sl aA b]]⟩),(2000,⟨1,false,rws eU8 f⟩),(2011,⟨1,false,rws eU8 d⟩)]
theorem Bh {l p k c b a d m n q j f i}:LX tab ow (.close [9002,10007,10008,10011]) ep (iH l p k c b a d m n q j f i) (fun s=>⟨[(3,.sl 2000 0 s.1.length),(22,.agg [sl aA p,sl aA k,sl aA c]),(23,I b),(30,sl aA a),(31,I d),(32,I s.2)],kX l m n q j f i s.1⟩) (fun e=>(.exit 2,⟨[(3,.sl 2000 0 e.1.length),(22,.agg [sl aA p,sl aA k,sl aA c]),(23,I b),(30,sl aA a),(31,I d),(32,I e.2.1),(33,B e.2.2)],kX l m n q j f i e.1⟩)):=by
 refine lrX (fun s o h=> ?_)
 obtain ⟨_,_⟩:=s
 simp only [iH] at h
 simp only [kX,ep,iG]
 have d1:= @od
 exact go2
def iz (r:List UInt8) (h q k:List au) (m:Int) (f:List au) (c i j n:Int) (l o p:List au):(List UInt8)×Int->Option (((List UInt8)×Int)⊕(((List UInt8)×Int×Bool)))
 | (d,a)=>
   br (decide (a<c)) (
   (atL f a).bind fun b=>
   br (cP ((d++([(UInt8.ofInt b.Row),(UInt8.ofInt b.Col)]:List UInt8)).length) 1) (
   (l7 b.Value (d++([(UInt8.ofInt b.Row),(UInt8.ofInt b.Col)]:List UInt8))).bind fun e=>
   some (.inl (e,(wrap .i64 (a+1))))) none) (
   some (.inr (d,a,decide (a<c))))
abbrev lw (i:List UInt8) (a b e:Int) (c d f:List au) (h:List UInt8):List (Nat×Blk):=[(1000,⟨6,true,[[I a,I b,I e,sl aA c,sl aA d,sl aA f]]⟩),(2000,⟨1,false,rws eU8 h⟩),(2011,⟨1,false,rws eU8 i⟩)]
theorem Cn {q a n d i l p b c j f k m}:LX tab ow (.close [9002,10007,10008,10011]) ep (iz q a n d i l p b c j f k m) (fun s=>⟨[(3,.sl 2000 0 s.1.length),(22,.agg [sl aA a,sl aA n,sl aA d]),(23,I i),(30,sl aA l),(31,I p),(32,I s.2)],lw q b c j f k m s.1⟩) (fun e=>(.exit 2,⟨[(3,.sl 2000 0 e.1.length),(22,.agg [sl aA a,sl aA n,sl aA d]),(23,I i),(30,sl aA l),(31,I p),(32,I e.2.1),(33,B e.2.2)],lw q b c j f k m e.1⟩)):=by
 refine lrX (fun s o h=> ?_)
 obtain ⟨_,_⟩:=s
 simp only [iz] at h
 simp only [lw,ep,iG]
 have d1:= @od
 exact go2
def iT (s:bi):Option (List UInt8):=
 br (cP ((([(115:UInt8),(121:UInt8),(115:UInt8),(116:UInt8),(101:UInt8),(109:UInt8)]:List UInt8)++([(UInt8.ofInt s.Rows),(UInt8.ofInt s.Cols),(UInt8.ofInt s.Publics)]:List UInt8)).length) 1) (
 (ft s).bind fun a=>
 (l7 (a.1.length:Int) (([(115:UInt8),(121:UInt8),(115:UInt8),(116:UInt8),(101:UInt8),(109:UInt8)]:List UInt8)++([(UInt8.ofInt s.Rows),(UInt8.ofInt s.Cols),(UInt8.ofInt s.Publics)]:List UInt8))).bind fun f=>
 (Loop (dI ([(UInt8.ofInt s.Rows),(UInt8.ofInt s.Cols),(UInt8.ofInt s.Publics)]:List UInt8) a.1 a.2.1 a.2.2 0 a.1 (a.1.length:Int) s.Rows s.Cols s.Publics s.A s.B s.C) (f,0)).bind fun h=>
 (l7 (a.2.1.length:Int) h.1).bind fun b=>
 (Loop (iH ([(UInt8.ofInt s.Rows),(UInt8.ofInt s.Cols),(UInt8.ofInt s.Publics)]:List UInt8) a.1 a.2.1 a.2.2 1 a.2.1 (a.2.1.length:Int) s.Rows s.Cols s.Publics s.A s.B s.C) (b,0)).bind fun c=>
 (l7 (a.2.2.length:Int) c.1).bind fun e=>
 (Loop (iz ([(UInt8.ofInt s.Rows),(UInt8.ofInt s.Cols),(UInt8.ofInt s.Publics)]:List UInt8) a.1 a.2.1 a.2.2 2 a.2.2 (a.2.2.length:Int) s.Rows s.Cols s.Publics s.A s.B s.C) (e,0)).bind fun d=>
 some d.1) none
theorem ET {s r} (h:iT s=some r):Call tab ow 351 [.agg [I s.Rows,I s.Cols,I s.Publics,sl aA s.A,sl aA s.B,sl aA s.C]] []=some (sl eU8 r,[]):=by
 rw [aj (af:=jK) rfl]
 unfold iT at h
 simp+decide only [jK,jQ,go_sem,reduceIte,Nat.reduceAdd,Int.reduceAdd,Int.reduceMul,Int.reduceSub]
 obtain ⟨hb,h⟩:=brg h
 refine JY hb ?_
 obtain ⟨r_,h1,h⟩:=bd h
 refine y5 (pr h1) ?_
 simp+decide only [go_sem,reduceIte,Nat.reduceAdd,Int.reduceAdd,Int.reduceMul,Int.reduceSub]
 refine k8 ?_
 simp+decide only [mkL,go_sem,reduceIte,Nat.reduceAdd,Int.reduceAdd,Int.reduceMul,Int.reduceSub]
 obtain ⟨r_2,h1,h⟩:=bd h
 refine y5 (od h1) ?_
 simp+decide only [go_sem,reduceIte,Nat.reduceAdd,Int.reduceAdd,Int.reduceMul,Int.reduceSub]
 obtain ⟨e_,h1,h⟩:=bd h
 refine JI (lxE BN h1) ?_
 simp+decide only [go_sem,reduceIte,Nat.reduceAdd,Int.reduceAdd,Int.reduceMul,Int.reduceSub]
 refine k8 ?_
 simp+decide only [mkL,go_sem,reduceIte,Nat.reduceAdd,Int.reduceAdd,Int.reduceMul,Int.reduceSub]
 obtain ⟨r_4,h1,h⟩:=bd h
 refine y5 (od h1) ?_
 simp+decide only [go_sem,reduceIte,Nat.reduceAdd,Int.reduceAdd,Int.reduceMul,Int.reduceSub]
 obtain ⟨e_2,h1,h⟩:=bd h
 refine JI (lxE Bh h1) ?_
 simp+decide only [go_sem,reduceIte,Nat.reduceAdd,Int.reduceAdd,Int.reduceMul,Int.reduceSub]
 refine k8 ?_
 simp+decide only [mkL,go_sem,reduceIte,Nat.reduceAdd,Int.reduceAdd,Int.reduceMul,Int.reduceSub]
 obtain ⟨r_6,h1,h⟩:=bd h
 refine y5 (od h1) ?_
 simp+decide only [go_sem,reduceIte,Nat.reduceAdd,Int.reduceAdd,Int.reduceMul,Int.reduceSub]
 obtain ⟨e_3,h1,h⟩:=bd h
 refine JI (lxE Cn h1) ?_
 simp+decide only [go_sem,reduceIte,Nat.reduceAdd,Int.reduceAdd,Int.reduceMul,Int.reduceSub]
 refine k8 ?_
 simp+decide only [mkL,go_sem,reduceIte,Nat.reduceAdd,Int.reduceAdd,Int.reduceMul,Int.reduceSub]
 obtain rfl:=cZ h
 first|rfl| (simp only [bf,go_sem];done)
end
section
@[local go_sem] theorem b5f:mkR 2002 []=rws (eL eU8) []:=rfl
@[local go_sem] theorem b1W:mkR 2014 []=rws eU8 []:=rfl
def iO (l:List (List UInt8)) (k:List UInt8) (f:List Int) (d c n p:Int) (i o h:List au) (j m q:Int):(List UInt8)×Int->Option (((List UInt8)×Int)⊕(((List UInt8)×Int×Bool)))
 | (e,a)=>
   br (decide (a<d)) (
   (atL f a).bind fun x=>
   (l7 x e).bind fun b=>
   some (.inl (b,(wrap .i64 (a+1))))) (
   some (.inr (e,a,decide (a<d))))
abbrev wx (l:List (List UInt8)) (f:List UInt8) (c i k:Int) (b j a:List au) (e d m:Int) (h:List UInt8):List (Nat×Blk):=[(1000,⟨6,true,[[I c,I i,I k,sl aA b,sl aA j,sl aA a]]⟩),(1001,⟨3,true,[[I e,I d,I m]]⟩),(2002,⟨1,false,rws (eL eU8) l⟩),(2004,⟨1,false,rws eU8 h⟩),(2014,⟨1,false,rws eU8 f⟩)]
theorem P6 {l j k d c m p b n a i f q}:LX tab ow (.close [6002]) EO (iO l j k d c m p b n a i f q) (fun s=>⟨[(7,.sl 2004 0 s.1.length),(26,sl eI k),(27,I d),(28,I s.2)],wx l j c m p b n a i f q s.1⟩) (fun e=>(.exit 0,⟨[(7,.sl 2004 0 e.1.length),(26,sl eI k),(27,I d),(28,I e.2.1),(29,B e.2.2)],wx l j c m p b n a i f q e.1⟩)):=by
 refine lrX (fun s o h=> ?_)
 obtain ⟨_,_⟩:=s
 simp only [iO] at h
 simp only [wx,EO,Eg]
 have d1:= @od
 exact go2
def vV (s:bi) (t:Setting) (a:List Int):Option (List UInt8):=
 (iT s).bind fun c=>
 (s3 ([c]:List (List UInt8))).bind fun b=>
 br (cP b.length 1) (
 br (cP ((b++([(UInt8.ofInt t.Rate),(UInt8.ofInt t.Queries),(UInt8.ofInt t.Grind)]:List UInt8)).length) 1) (
 (Loop (iO ([c]:List (List UInt8)) ([(UInt8.ofInt t.Rate),(UInt8.ofInt t.Queries),(UInt8.ofInt t.Grind)]:List UInt8) a (a.length:Int) s.Rows s.Cols s.Publics s.A s.B s.C t.Rate t.Queries t.Grind) ((b++([(UInt8.ofInt t.Rate),(UInt8.ofInt t.Queries),(UInt8.ofInt t.Grind)]:List UInt8)),0)).bind fun d=>
 some d.1) none) none
theorem TM {s t a r} (h:vV s t a=some r):Call tab ow 290 [.agg [I s.Rows,I s.Cols,I s.Publics,sl aA s.A,sl aA s.B,sl aA s.C],.agg [I t.Rate,I t.Queries,I t.Grind],sl eI a] []=some (sl eU8 r,[]):=by
 rw [aj (af:=uq) rfl]
 unfold vV at h
 simp only [uq,AE]
 have d1:= @ET
 have d2:= @yB
 have d3:= @P6
 exact go2
end
end
end Go.AI.Fn
