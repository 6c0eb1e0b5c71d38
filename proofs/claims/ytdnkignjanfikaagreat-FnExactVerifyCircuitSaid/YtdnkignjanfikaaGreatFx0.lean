/- Part. -/
import Derived.Test.YtdnkignjanfikaaGreatStr
set_option linter.unusedVariables false
set_option linter.unusedSimpArgs false
set_option maxRecDepth 100000
set_option maxHeartbeats 1000000
namespace Go.AI.Fn
noncomputable section
open IntKind (wrap)
def KT (b:Bool):Option Int:=
 br b (
 some 1) (
 some 0)
theorem a4Q {b r} (h:KT b=some r):Call tab ow 303 [B b] []=some (I r,[]):=by
 rw [aj (af:=CU) rfl]
 unfold KT at h
 simp only [CU,Qn]
 exact go2
def lx (b:Int) (a:List Gate):Int×Int->Option ((Int×Int)⊕((Int×Int×Bool)))
 | (n,k)=>
   br (decide (k<(a.length:Int))) (
   (atL a k).bind fun x=>
   (KT (x.Op==b)).bind fun c=>
   some (.inl ((wrap .i64 (n+c)),(wrap .i64 (k+1))))) (
   some (.inr (n,k,decide (k<(a.length:Int)))))
theorem Qo {a b}:LX tab ow (.close [6009]) EW (lx a b) (fun s=>⟨[(1,I a),(2,.ptr 1000 0 0 1),(5,I s.1),(6,I s.2)],[(1000,⟨1,true,[[sl eGate b]]⟩)]⟩) (fun e=>(.exit 0,⟨[(1,I a),(2,.ptr 1000 0 0 1),(5,I e.1),(6,I e.2.1),(11,B e.2.2)],[(1000,⟨1,true,[[sl eGate b]]⟩)]⟩)):=by
 refine lrX (fun s o h=> ?_)
 obtain ⟨_,_⟩:=s
 simp only [lx] at h
 simp only [EW,GO]
 have d1:= @a4Q
 exact go2
def qN (c:Circuit) (a:Int):Option Int:=
 (Loop (lx a c.Gates) (0,0)).bind fun b=>
 some b.1
theorem CK {c a r} (h:qN c a=some r):Call tab ow 187 [.agg [sl eGate c.Gates],I a] []=some (I r,[]):=by
 rw [aj (af:=wY) rfl]
 unfold qN at h
 simp only [wY,CN]
 have d1:= @Qo
 exact go2
def ez (n b a:Int):Option Bool:=
 br (decide (b<=n)) (
 some (decide (n<=a))) (
 some false)
theorem oO {n b a r} (h:ez n b a=some r):Call tab ow 115 [I n,I b,I a] []=some (B r,[]):=by
 rw [aj (af:=Hl) rfl]
 unfold ez at h
 simp only [Hl,W3]
 exact go2
def Bw (a:Int):Option Int:=
 (ez a 4 7).bind fun b=>
 br b (
 some 2) (
 br (a==8) (
 some 1) (
 some 0))
theorem a1N {a r} (h:Bw a=some r):Call tab ow 188 [I a] []=some (I r,[]):=by
 rw [aj (af:=zZ) rfl]
 unfold Bw at h
 simp only [zZ,Ni]
 have d1:= @oO
 exact go2
def rI (a b:Int):Option Int:=
 some ((wrap .i64 (a+b)).tmod 2130706433)
theorem JU {a b r} (h:rI a b=some r):Call tab ow 243 [I a,I b] []=some (I r,[]):=by
 rw [aj (af:=DG) rfl]
 unfold rI at h
 simp only [DG,SD]
 exact go2
def yi (a b:Int):Option Int:=
 some ((wrap .i64 ((wrap .i64 (a+2130706433))-b)).tmod 2130706433)
theorem QP {a b r} (h:yi a b=some r):Call tab ow 244 [I a,I b] []=some (I r,[]):=by
 rw [aj (af:=DI) rfl]
 unfold yi at h
 simp only [DI,Ql]
 exact go2
def lf (a b:Int):Option Int:=
 some ((wrap .i64 (a*b)).tmod 2130706433)
theorem CE {a b r} (h:lf a b=some r):Call tab ow 245 [I a,I b] []=some (I r,[]):=by
 rw [aj (af:=Dr) rfl]
 unfold lf at h
 simp only [Dr,Ru]
 exact go2
def lD (m:List Int) (b:List UInt8):(List Int)×Int->Option (((List Int)×Int)⊕(((List Int)×Int×Bool)))
 | (a,i)=>
   br (decide (i<(b.length:Int))) (
   br (decide (0<=(wrap .i64 (i.tdiv 8)))&&decide ((wrap .i64 (i.tdiv 8)).toNat<25)) (
   (a[(wrap .i64 (i.tdiv 8)).toNat]?).bind fun x=>
   (atL b i).bind fun c=>
   br (decide (0<=(wrap .u64 (wrap .i64 (8*(i.tmod 8)))))) (
   br (decide (0<=(wrap .i64 (i.tdiv 8)))&&decide ((wrap .i64 (i.tdiv 8)).toNat<25)) (
   br (decide ((wrap .i64 (i.tdiv 8)).toNat<a.length)) (
   some (.inl ((a.set ((wrap .i64 (i.tdiv 8)).toNat) (xi .u64 x (bC .u64 (wrap .u64 (c.toNat:Int)) (wrap .u64 (wrap .i64 (8*(i.tmod 8))))))),(wrap .i64 (i+1))))) none) none) none) none) (
   some (.inr (a,i,decide (i<(b.length:Int)))))
abbrev xZ (m a:List Int):List (Nat×Blk):=[(1000,⟨25,true,[ar .u64 m]⟩),(2001,⟨25,true,[ar .u64 a]⟩)]
theorem Qb {m a}:LX tab ow (.close []) z7 (lD m a) (fun s=>⟨[(0,S a),(2,.ptr 1000 0 0 1),(3,.ptr 2001 0 0 1),(4,I s.2)],xZ m s.1⟩) (fun e=>(.exit 0,⟨[(0,S a),(2,.ptr 1000 0 0 1),(3,.ptr 2001 0 0 1),(4,I e.2.1),(9,B e.2.2)],xZ m e.1⟩)):=by
 refine lrX (fun s o h=> ?_)
 obtain ⟨_,_⟩:=s
 simp only [lD] at h
 simp only [xZ,z7]
 exact go2
def yb (t:List UInt8):Option (List Int):=
 (Loop (lD (nZ 25) t) ((nZ 25),0)).bind fun a=>
 br (decide (a.1.length=25)) (
 br (decide (a.1.length=25)) (
 br (decide (a.1.length=25)) (
 some a.1) none) none) none
theorem Y2 {t r} (h:yb t=some r):Call tab ow 321 [S t] []=some (.agg (ar .u64 r),[]):=by
 rw [aj (af:=wK) rfl]
 unfold yb at h
 simp only [wK,Lx]
 have d1:= @Qb
 exact go2
def Gx:Option (List Int):=
 some ([1,32898,9223372036854808714,9223372039002292224,32907,2147483649,9223372039002292353,9223372036854808585,138,136,2147516425,2147483658,2147516555,9223372036854775947,9223372036854808713,9223372036854808579,9223372036854808578,9223372036854775936,32778,9223372039002259466,9223372039002292353,9223372036854808704,2147483649,9223372039002292232]:List Int)
theorem Ui {r} (h:Gx=some r):Call tab ow 365 [] []=some (.agg (ar .u64 r),[]):=by
 rw [aj (af:=tV) rfl]
 unfold Gx at h
 simp only [tV,J0]
 exact go2
def FO:Option (List Int):=
 some ([0,1,62,28,27,36,44,6,55,20,3,10,43,25,39,41,45,15,21,8,18,2,61,56,14]:List Int)
theorem UW {r} (h:FO=some r):Call tab ow 366 [] []=some (.agg (ar .u64 r),[]):=by
 rw [aj (af:=ub) rfl]
 unfold FO at h
 simp only [ub,Iw]
 exact go2
def xX (x n:Int):Option Int:=
 br (n==0) (
 some x) (
 br (decide (0<=n)) (
 br (decide (0<=(wrap .u64 (64-n)))) (
 some (xi .u64 (bC .u64 x n) (bW .u64 x (wrap .u64 (64-n))))) none) none)
theorem O5 {x n r} (h:xX x n=some r):Call tab ow 367 [.lit (.int .u64 x),.lit (.int .u64 n)] []=some (.lit (.int .u64 r),[]):=by
 rw [aj (af:=Aa) rfl]
 unfold xX at h
 simp only [Aa,O2]
 exact go2
def ji (b l j i:List Int) (k:Int):(List Int)×Int->Option (((List Int)×Int)⊕(((List Int)×Int×Bool)))
 | (c,a)=>
   br (decide (a<5)) (
   br (decide (0<=a)&&decide (a.toNat<25)) (
   (b[a.toNat]?).bind fun x=>
   br (decide (0<=(wrap .i64 (a+5)))&&decide ((wrap .i64 (a+5)).toNat<25)) (
   (b[(wrap .i64 (a+5)).toNat]?).bind fun d=>
   br (decide (0<=(wrap .i64 (a+10)))&&decide ((wrap .i64 (a+10)).toNat<25)) (
   (b[(wrap .i64 (a+10)).toNat]?).bind fun f=>
   br (decide (0<=(wrap .i64 (a+15)))&&decide ((wrap .i64 (a+15)).toNat<25)) (
   (b[(wrap .i64 (a+15)).toNat]?).bind fun e=>
   br (decide (0<=(wrap .i64 (a+20)))&&decide ((wrap .i64 (a+20)).toNat<25)) (
   (b[(wrap .i64 (a+20)).toNat]?).bind fun h=>
   br (decide (0<=a)&&decide (a.toNat<5)) (
   br (decide (a.toNat<c.length)) (
   some (.inl ((c.set a.toNat (nh .u64 (nh .u64 (nh .u64 (nh .u64 x d) f) e) h)),(wrap .i64 (a+1))))) none) none) none) none) none) none) none) (
   some (.inr (c,a,decide (a<5))))
abbrev tJ (e d c a b:List Int):List (Nat×Blk):=[(1000,⟨25,true,[ar .u64 e]⟩),(1001,⟨25,true,[ar .u64 d]⟩),(2001,⟨24,true,[ar .u64 c]⟩),(3001,⟨25,true,[ar .u64 a]⟩),(7001,⟨5,true,[ar .u64 b]⟩)]
theorem Mz {f d b a c}:LX tab ow (.close []) ta (ji f d b a c) (fun s=>⟨[(1,.ptr 1000 0 0 1),(2,.ptr 1001 0 0 1),(3,.ptr 2001 0 0 1),(4,.ptr 3001 0 0 1),(5,I c),(6,.ptr 7001 0 0 1),(7,I s.2)],tJ f d b a s.1⟩) (fun e=>(.exit 2,⟨[(1,.ptr 1000 0 0 1),(2,.ptr 1001 0 0 1),(3,.ptr 2001 0 0 1),(4,.ptr 3001 0 0 1),(5,I c),(6,.ptr 7001 0 0 1),(7,I e.2.1),(22,B e.2.2)],tJ f d b a e.1⟩)):=by
 refine lrX (fun s o h=> ?_)
 obtain ⟨_,_⟩:=s
 simp only [ji] at h
 simp only [tJ,ta]
 exact go2
def jp (i f j c:List Int) (l:Int):(List Int)×Int->Option (((List Int)×Int)⊕(((List Int)×Int×Bool)))
 | (b,a)=>
   br (decide (a<25)) (
   br (decide (0<=a)&&decide (a.toNat<25)) (
   (b[a.toNat]?).bind fun k=>
   br (decide (0<=((wrap .i64 (a+4)).tmod 5))&&decide (((wrap .i64 (a+4)).tmod 5).toNat<5)) (
   (c[((wrap .i64 (a+4)).tmod 5).toNat]?).bind fun e=>
   br (decide (0<=((wrap .i64 (a+1)).tmod 5))&&decide (((wrap .i64 (a+1)).tmod 5).toNat<5)) (
   (c[((wrap .i64 (a+1)).tmod 5).toNat]?).bind fun h=>
   (xX h 1).bind fun d=>
   br (decide (0<=a)&&decide (a.toNat<25)) (
   br (decide (a.toNat<b.length)) (
   some (.inl ((b.set a.toNat (nh .u64 k (nh .u64 e d))),(wrap .i64 (a+1))))) none) none) none) none) none) (
   some (.inr (b,a,decide (a<25))))
abbrev tR (c a e b d:List Int):List (Nat×Blk):=[(1000,⟨25,true,[ar .u64 d]⟩),(1001,⟨25,true,[ar .u64 c]⟩),(2001,⟨24,true,[ar .u64 a]⟩),(3001,⟨25,true,[ar .u64 e]⟩),(7001,⟨5,true,[ar .u64 b]⟩)]
theorem Mt {c a d b f}:LX tab ow (.close [15013]) sf (jp c a d b f) (fun s=>⟨[(1,.ptr 1000 0 0 1),(2,.ptr 1001 0 0 1),(3,.ptr 2001 0 0 1),(4,.ptr 3001 0 0 1),(5,I f),(6,.ptr 7001 0 0 1),(8,I s.2)],tR c a d b s.1⟩) (fun e=>(.exit 4,⟨[(1,.ptr 1000 0 0 1),(2,.ptr 1001 0 0 1),(3,.ptr 2001 0 0 1),(4,.ptr 3001 0 0 1),(5,I f),(6,.ptr 7001 0 0 1),(8,I e.2.1),(51,B e.2.2)],tR c a d b e.1⟩)):=by
 refine lrX (fun s o h=> ?_)
 obtain ⟨_,_⟩:=s
 simp only [jp] at h
 simp only [tR,sf]
 have d1:= @O5
 exact go2
def jq (e l i h j:List Int) (m b:Int):(List Int)×Int->Option (((List Int)×Int)⊕(((List Int)×Int×Bool)))
 | (c,a)=>
   br (decide (a<5)) (
   br (decide (0<=(wrap .i64 (b+(wrap .i64 (5*a)))))&&decide ((wrap .i64 (b+(wrap .i64 (5*a)))).toNat<25)) (
   (e[(wrap .i64 (b+(wrap .i64 (5*a)))).toNat]?).bind fun k=>
   br (decide (0<=(wrap .i64 (b+(wrap .i64 (5*a)))))&&decide ((wrap .i64 (b+(wrap .i64 (5*a)))).toNat<25)) (
   (h[(wrap .i64 (b+(wrap .i64 (5*a)))).toNat]?).bind fun f=>
   (xX k f).bind fun d=>
   br (decide (0<=(wrap .i64 (a+(wrap .i64 (5*((wrap .i64 ((wrap .i64 (2*b))+(wrap .i64 (3*a)))).tmod 5))))))&&decide ((wrap .i64 (a+(wrap .i64 (5*((wrap .i64 ((wrap .i64 (2*b))+(wrap .i64 (3*a)))).tmod 5))))).toNat<25)) (
   br (decide ((wrap .i64 (a+(wrap .i64 (5*((wrap .i64 ((wrap .i64 (2*b))+(wrap .i64 (3*a)))).tmod 5))))).toNat<c.length)) (
   some (.inl ((c.set ((wrap .i64 (a+(wrap .i64 (5*((wrap .i64 ((wrap .i64 (2*b))+(wrap .i64 (3*a)))).tmod 5))))).toNat) d),(wrap .i64 (a+1))))) none) none) none) none) (
   some (.inr (c,a,decide (a<5))))
abbrev t7 (b e c f d a:List Int):List (Nat×Blk):=[(1000,⟨25,true,[ar .u64 b]⟩),(1001,⟨25,true,[ar .u64 e]⟩),(2001,⟨24,true,[ar .u64 c]⟩),(3001,⟨25,true,[ar .u64 f]⟩),(7001,⟨5,true,[ar .u64 d]⟩),(16001,⟨25,true,[ar .u64 a]⟩)]
theorem MM {a d b f c i j}:LX tab ow (.close [23021]) rQ (jq a d b f c i j) (fun s=>⟨[(1,.ptr 1000 0 0 1),(2,.ptr 1001 0 0 1),(3,.ptr 2001 0 0 1),(4,.ptr 3001 0 0 1),(5,I i),(9,.ptr 16001 0 0 1),(10,I j),(11,I s.2)],t7 a d b f c s.1⟩) (fun e=>(.exit 8,⟨[(1,.ptr 1000 0 0 1),(2,.ptr 1001 0 0 1),(3,.ptr 2001 0 0 1),(4,.ptr 3001 0 0 1),(5,I i),(9,.ptr 16001 0 0 1),(10,I j),(11,I e.2.1),(77,B e.2.2)],t7 a d b f c e.1⟩)):=by
 refine lrX (fun s o h=> ?_)
 obtain ⟨_,_⟩:=s
 simp only [jq] at h
 simp only [t7,rQ]
 have d1:= @O5
 exact go2
def jm (f d c h i:List Int) (j:Int):(List Int)×Int->Option (((List Int)×Int)⊕(((List Int)×Int×Bool)))
 | (a,b)=>
   br (decide (b<5)) (
   (Loop (jq f d c h i j b) (a,0)).bind fun e=>
   some (.inl (e.1,(wrap .i64 (b+1))))) (
   some (.inr (a,b,decide (b<5))))
abbrev sX (b a f d e c:List Int):List (Nat×Blk):=[(1000,⟨25,true,[ar .u64 b]⟩),(1001,⟨25,true,[ar .u64 a]⟩),(2001,⟨24,true,[ar .u64 f]⟩),(3001,⟨25,true,[ar .u64 d]⟩),(7001,⟨5,true,[ar .u64 e]⟩),(16001,⟨25,true,[ar .u64 c]⟩)]
theorem MR {b a f c d i}:LX tab ow (.close [23021]) sq (jm b a f c d i) (fun s=>⟨[(1,.ptr 1000 0 0 1),(2,.ptr 1001 0 0 1),(3,.ptr 2001 0 0 1),(4,.ptr 3001 0 0 1),(5,I i),(9,.ptr 16001 0 0 1),(10,I s.2)],sX b a f c d s.1⟩) (fun e=>(.exit 6,⟨[(1,.ptr 1000 0 0 1),(2,.ptr 1001 0 0 1),(3,.ptr 2001 0 0 1),(4,.ptr 3001 0 0 1),(5,I i),(9,.ptr 16001 0 0 1),(10,I e.2.1),(73,B e.2.2)],sX b a f c d e.1⟩)):=by
 refine lrX (fun s o h=> ?_)
 obtain ⟨_,_⟩:=s
 simp only [jm] at h
 simp only [sX,sq]
 have d1:= @MM
 exact go2
def jk (l k j i d:List Int) (m b:Int):(List Int)×Int->Option (((List Int)×Int)⊕(((List Int)×Int×Bool)))
 | (c,a)=>
   br (decide (a<5)) (
   br (decide (0<=(wrap .i64 (b+(wrap .i64 (5*a)))))&&decide ((wrap .i64 (b+(wrap .i64 (5*a)))).toNat<25)) (
   (d[(wrap .i64 (b+(wrap .i64 (5*a)))).toNat]?).bind fun h=>
   br (decide (0<=(wrap .i64 (((wrap .i64 (b+1)).tmod 5)+(wrap .i64 (5*a)))))&&decide ((wrap .i64 (((wrap .i64 (b+1)).tmod 5)+(wrap .i64 (5*a)))).toNat<25)) (
   (d[(wrap .i64 (((wrap .i64 (b+1)).tmod 5)+(wrap .i64 (5*a)))).toNat]?).bind fun f=>
   br (decide (0<=(wrap .i64 (((wrap .i64 (b+2)).tmod 5)+(wrap .i64 (5*a)))))&&decide ((wrap .i64 (((wrap .i64 (b+2)).tmod 5)+(wrap .i64 (5*a)))).toNat<25)) (
   (d[(wrap .i64 (((wrap .i64 (b+2)).tmod 5)+(wrap .i64 (5*a)))).toNat]?).bind fun e=>
   br (decide (0<=(wrap .i64 (b+(wrap .i64 (5*a)))))&&decide ((wrap .i64 (b+(wrap .i64 (5*a)))).toNat<25)) (
   br (decide ((wrap .i64 (b+(wrap .i64 (5*a)))).toNat<c.length)) (
   some (.inl ((c.set ((wrap .i64 (b+(wrap .i64 (5*a)))).toNat) (nh .u64 h (cM .u64 (dD .u64 f) e))),(wrap .i64 (a+1))))) none) none) none) none) none) (
   some (.inr (c,a,decide (a<5))))
abbrev ti (f e c a d b:List Int):List (Nat×Blk):=[(1000,⟨25,true,[ar .u64 b]⟩),(1001,⟨25,true,[ar .u64 f]⟩),(2001,⟨24,true,[ar .u64 e]⟩),(3001,⟨25,true,[ar .u64 c]⟩),(7001,⟨5,true,[ar .u64 a]⟩),(16001,⟨25,true,[ar .u64 d]⟩)]
theorem MF {f d b a c j i}:LX tab ow (.close []) sj (jk f d b a c j i) (fun s=>⟨[(1,.ptr 1000 0 0 1),(2,.ptr 1001 0 0 1),(3,.ptr 2001 0 0 1),(4,.ptr 3001 0 0 1),(5,I j),(9,.ptr 16001 0 0 1),(12,I i),(13,I s.2)],ti f d b a c s.1⟩) (fun e=>(.exit 12,⟨[(1,.ptr 1000 0 0 1),(2,.ptr 1001 0 0 1),(3,.ptr 2001 0 0 1),(4,.ptr 3001 0 0 1),(5,I j),(9,.ptr 16001 0 0 1),(12,I i),(13,I e.2.1),(108,B e.2.2)],ti f d b a c e.1⟩)):=by
 refine lrX (fun s o h=> ?_)
 obtain ⟨_,_⟩:=s
 simp only [jk] at h
 simp only [ti,sj]
 exact go2
def jn (e i c j f:List Int) (h:Int):(List Int)×Int->Option (((List Int)×Int)⊕(((List Int)×Int×Bool)))
 | (b,a)=>
   br (decide (a<5)) (
   (Loop (jk e i c j f h a) (b,0)).bind fun d=>
   some (.inl (d.1,(wrap .i64 (a+1))))) (
   some (.inr (b,a,decide (a<5))))
abbrev tK (c e b f d a:List Int):List (Nat×Blk):=[(1000,⟨25,true,[ar .u64 a]⟩),(1001,⟨25,true,[ar .u64 c]⟩),(2001,⟨24,true,[ar .u64 e]⟩),(3001,⟨25,true,[ar .u64 b]⟩),(7001,⟨5,true,[ar .u64 f]⟩),(16001,⟨25,true,[ar .u64 d]⟩)]
theorem MG {f a b i c d}:LX tab ow (.close []) sw (jn f a b i c d) (fun s=>⟨[(1,.ptr 1000 0 0 1),(2,.ptr 1001 0 0 1),(3,.ptr 2001 0 0 1),(4,.ptr 3001 0 0 1),(5,I d),(9,.ptr 16001 0 0 1),(12,I s.2)],tK f a b i c s.1⟩) (fun e=>(.exit 10,⟨[(1,.ptr 1000 0 0 1),(2,.ptr 1001 0 0 1),(3,.ptr 2001 0 0 1),(4,.ptr 3001 0 0 1),(5,I d),(9,.ptr 16001 0 0 1),(12,I e.2.1),(104,B e.2.2)],tK f a b i c e.1⟩)):=by
 refine lrX (fun s o h=> ?_)
 obtain ⟨_,_⟩:=s
 simp only [jn] at h
 simp only [tK,sw]
 have d1:= @MF
 exact go2
def jl (d c e:List Int):(List Int)×Int->Option (((List Int)×Int)⊕(((List Int)×Int×Bool)))
 | (m,t)=>
   br (decide (t<24)) (
   (Loop (ji m d c e t) ((nZ 5),0)).bind fun h=>
   (Loop (jp d c e h.1 t) (m,0)).bind fun b=>
   (Loop (jm b.1 d c e h.1 t) ((nZ 25),0)).bind fun f=>
   (Loop (jn d c e h.1 f.1 t) (b.1,0)).bind fun a=>
   (a.1[0]?).bind fun j=>
   br (decide (0<=t)&&decide (t.toNat<24)) (
   (c[t.toNat]?).bind fun i=>
   br (decide (0<a.1.length)) (
   some (.inl ((a.1.set 0 (nh .u64 j i)),(wrap .i64 (t+1))))) none) none) (
   some (.inr (m,t,decide (t<24))))
abbrev tC (a b c m:List Int):List (Nat×Blk):=[(1000,⟨25,true,[ar .u64 m]⟩),(1001,⟨25,true,[ar .u64 a]⟩),(2001,⟨24,true,[ar .u64 b]⟩),(3001,⟨25,true,[ar .u64 c]⟩)]
theorem Mj {a c b}:LX tab ow (.close [7001,15013,16001,23021]) tS (jl a c b) (fun s=>⟨[(1,.ptr 1000 0 0 1),(2,.ptr 1001 0 0 1),(3,.ptr 2001 0 0 1),(4,.ptr 3001 0 0 1),(5,I s.2)],tC a c b s.1⟩) (fun e=>(.exit 0,⟨[(1,.ptr 1000 0 0 1),(2,.ptr 1001 0 0 1),(3,.ptr 2001 0 0 1),(4,.ptr 3001 0 0 1),(5,I e.2.1),(17,B e.2.2)],tC a c b e.1⟩)):=by
 refine lrX (fun s o h=> ?_)
 obtain ⟨_,_⟩:=s
 simp only [jl] at h
 simp only [tC,tS]
 have d1:= @Mz
 have d2:= @Mt
 have d3:= @MR
 have d4:= @MG
 exact go2
def sh (a:List Int):Option (List Int):=
 br (decide (a.length=25)) (
 (Gx).bind fun d=>
 br (decide (d.length=24)) (
 (FO).bind fun c=>
 br (decide (c.length=25)) (
 (Loop (jl (nZ 25) d c) (a,0)).bind fun b=>
 br (decide (b.1.length=25)) (
 br (decide (b.1.length=25)) (
 br (decide (b.1.length=25)) (
 some b.1) none) none) none) none) none) none
theorem Rr {a r} (h:sh a=some r):Call tab ow 322 [.agg (ar .u64 a)] []=some (.agg (ar .u64 r),[]):=by
 rw [aj (af:=sC) rfl]
 unfold sh at h
 simp only [sC,FN]
 have d1:= @Ui
 have d2:= @UW
 have d3:= @Mj
 exact go2
section
@[local go_sem] theorem b8Y:mkR 2000 []=rws eU8 []:=rfl
@[local go_sem] theorem b92:mkR 6011 []=rws eU8 []:=rfl
def mS (m:List Int) (a:Int):(List UInt8)×Int->Option (((List UInt8)×Int)⊕(((List UInt8)×Int×Bool)))
 | (l,i)=>
   br (decide (i<a)) (
   br (decide (0<=(wrap .i64 (i.tdiv 8)))&&decide ((wrap .i64 (i.tdiv 8)).toNat<25)) (
   (m[(wrap .i64 (i.tdiv 8)).toNat]?).bind fun x=>
   br (decide (0<=(wrap .u64 (wrap .i64 (8*(i.tmod 8)))))) (
   br (cP ((l++([(UInt8.ofInt (bW .u64 x (wrap .u64 (wrap .i64 (8*(i.tmod 8))))))]:List UInt8)).length) 1) (
   some (.inl ((l++([(UInt8.ofInt (bW .u64 x (wrap .u64 (wrap .i64 (8*(i.tmod 8))))))]:List UInt8)),(wrap .i64 (i+1))))) none) none) none) (
   some (.inr (l,i,decide (i<a))))
abbrev AW (m:List Int) (l:List UInt8):List (Nat×Blk):=[(1000,⟨25,true,[ar .u64 m]⟩),(2000,⟨1,false,rws eU8 l⟩)]
theorem Ug {m a}:LX tab ow (.close [6011,6012]) J6 (mS m a) (fun s=>⟨[(1,I a),(2,.ptr 1000 0 0 1),(5,.sl 2000 0 s.1.length),(6,I s.2)],AW m s.1⟩) (fun e=>(.exit 0,⟨[(1,I a),(2,.ptr 1000 0 0 1),(5,.sl 2000 0 e.1.length),(6,I e.2.1),(10,B e.2.2)],AW m e.1⟩)):=by
 refine lrX (fun s o h=> ?_)
 obtain ⟨_,_⟩:=s
 simp only [mS] at h
 simp only [AW,J6,HF]
 exact go2
def Bg (a:List Int) (n:Int):Option (List UInt8):=
 br (decide (a.length=25)) (
 (Loop (mS a n) (([]:List UInt8),0)).bind fun b=>
 some b.1) none
theorem a3E {a n r} (h:Bg a n=some r):Call tab ow 323 [.agg (ar .u64 a),I n] []=some (S r,[]):=by
 rw [aj (af:=Ar) rfl]
 unfold Bg at h
 simp only [Ar,GE]
 have d1:= @Ug
 exact go2
end
section
@[local go_sem] theorem b9B:mkR 2002 []=rws eU8 []:=rfl
@[local go_sem] theorem c0U:mkR 4001 []=rws eU8 []:=rfl
def kI (a:List UInt8):(List UInt8)->Option (((List UInt8))⊕(((List UInt8)×Bool)))
 |l=>
  br (((l.length:Int).tmod 136) !=0) (
  br (cP ((l++([(0:UInt8)]:List UInt8)).length) 1) (
  some (.inl (l++([(0:UInt8)]:List UInt8)))) none) (
  some (.inr (l,(((l.length:Int).tmod 136) !=0))))
abbrev B3 (a l:List UInt8):List (Nat×Blk):=[(2001,⟨1,false,rws eU8 l⟩),(2002,⟨1,false,rws eU8 a⟩)]
theorem Vf {a}:LX tab ow (.close [4001,4002]) AU (kI a) (fun s=>⟨[(3,.sl 2001 0 s.length)],B3 a s⟩) (fun e=>(.exit 0,⟨[(3,.sl 2001 0 e.1.length),(15,B e.2)],B3 a e.1⟩)):=by
 refine lrX (fun s o h=> ?_)
 simp only [kI] at h
 simp only [B3,AU]
 exact go2
def mP (f:List UInt8) (d:List Int) (h:List UInt8) (b:Int):(List Int)×Int->Option (((List Int)×Int)⊕(((List Int)×Int×Bool)))
 | (a,i)=>
   br (decide (i<25)) (
   br (decide (0<=i)&&decide (i.toNat<25)) (
   (a[i.toNat]?).bind fun e=>
   br (decide (0<=i)&&decide (i.toNat<25)) (
   (d[i.toNat]?).bind fun c=>
   br (decide (0<=i)&&decide (i.toNat<25)) (
   br (decide (i.toNat<a.length)) (
   some (.inl ((a.set i.toNat (nh .u64 e c)),(wrap .i64 (i+1))))) none) none) none) none) (
   some (.inr (a,i,decide (i<25))))
abbrev Bc (b:List UInt8) (a c:List Int):List (Nat×Blk):=[(2002,⟨1,false,rws eU8 b⟩),(6001,⟨25,true,[ar .u64 c]⟩),(10007,⟨25,true,[ar .u64 a]⟩)]
theorem Uk {b c d a}:LX tab ow (.close []) y4 (mP b c d a) (fun s=>⟨[(3,sl eU8 d),(4,.ptr 6001 0 0 1),(5,I a),(6,.ptr 10007 0 0 1),(7,I s.2)],Bc b c s.1⟩) (fun e=>(.exit 4,⟨[(3,sl eU8 d),(4,.ptr 6001 0 0 1),(5,I a),(6,.ptr 10007 0 0 1),(7,I e.2.1),(42,B e.2.2)],Bc b c e.1⟩)):=by
 refine lrX (fun s o h=> ?_)
 obtain ⟨_,_⟩:=s
 simp only [mP] at h
 simp only [Bc,y4]
 exact go2
def mQ (f d:List UInt8):(List Int)×Int->Option (((List Int)×Int)⊕(((List Int)×Int×Bool)))
 | (m,a)=>
   br (decide (a<(d.length:Int))) (
   (l6 d a (wrap .i64 (a+136))).bind fun y=>
   (yb y).bind fun e=>
   br (decide (e.length=25)) (
   (Loop (mP f e d a) (m,0)).bind fun b=>
   br (decide (b.1.length=25)) (
   (sh b.1).bind fun c=>
   br (decide (c.length=25)&&decide (b.1.length=25)) (
   some (.inl (c,(wrap .i64 (a+136))))) none) none) none) (
   some (.inr (m,a,decide (a<(d.length:Int)))))
abbrev uF (a:List UInt8) (m:List Int):List (Nat×Blk):=[(2002,⟨1,false,rws eU8 a⟩),(6001,⟨25,true,[ar .u64 m]⟩)]
theorem TF {a b}:LX tab ow (.close [10006,10007,15001,2001]) AQ (mQ a b) (fun s=>⟨[(3,sl eU8 b),(4,.ptr 6001 0 0 1),(5,I s.2)],uF a s.1⟩) (fun e=>(.exit 2,⟨[(3,sl eU8 b),(4,.ptr 6001 0 0 1),(5,I e.2.1),(31,B e.2.2)],uF a e.1⟩)):=by
 refine lrX (fun s o h=> ?_)
 obtain ⟨_,_⟩:=s
 simp only [mQ] at h
 simp only [uF,AQ]
 have d1:= @Y2
 have d2:= @Uk
 have d3:= @Rr
 exact go2
def lh (b:List UInt8):Option (List UInt8):=
 br (cP b.length 1) (
 br (cP ((b++([(1:UInt8)]:List UInt8)).length) 1) (
 (Loop (kI ([(1:UInt8)]:List UInt8)) (b++([(1:UInt8)]:List UInt8))).bind fun a=>
 br (decide (0<=(wrap .i64 ((a.1.length:Int)-1)))) (
 br (decide ((wrap .i64 ((a.1.length:Int)-1)).toNat<a.1.length)) (
 (a.1[(wrap .i64 ((a.1.length:Int)-1)).toNat]?).bind fun x=>
 br (decide (0<=(wrap .i64 ((a.1.length:Int)-1)))) (
 br (decide ((wrap .i64 ((a.1.length:Int)-1)).toNat<a.1.length)) (
 (a.1[(wrap .i64 ((a.1.length:Int)-1)).toNat]?).bind fun e=>
 (Loop (mQ ([(1:UInt8)]:List UInt8) (a.1.set ((wrap .i64 ((a.1.length:Int)-1)).toNat) (UInt8.ofInt (xi .u8 (x.toNat:Int) 128)))) ((nZ 25),0)).bind fun c=>
 br (decide (c.1.length=25)) (
 (Bg c.1 32).bind fun d=>
 some d) none) none) none) none) none) none) none
theorem ru {b r} (h:lh b=some r):Call tab ow 218 [S b] []=some (S r,[]):=by
 rw [aj (af:=Au) rfl]
 unfold lh at h
 simp only [Au,Np]
 have d1:= @Vf
 have d2:= @TF
 simp only [uF] at d2
 have d3:= @a3E
 exact go2
end
section
@[local go_sem] theorem b1x:mkR 2000 []=rws eU8 []:=rfl
@[local go_sem] theorem b3I:mkR 6007 []=rws eU8 []:=rfl
def w8 (a:Int):(List UInt8)×Int->Option (((List UInt8)×Int)⊕(((List UInt8)×Int×Bool)))
 | (l,i)=>
   br (decide (i>=0)) (
   br (decide (0<=(wrap .u64 (wrap .i64 (8*i))))) (
   br (cP ((l++([(UInt8.ofInt (bW .i64 a (wrap .u64 (wrap .i64 (8*i)))))]:List UInt8)).length) 1) (
   some (.inl ((l++([(UInt8.ofInt (bW .i64 a (wrap .u64 (wrap .i64 (8*i)))))]:List UInt8)),(wrap .i64 (i-1))))) none) none) (
   some (.inr (l,i,decide (i>=0))))
theorem Oy {a}:LX tab ow (.close [6007,6008]) DS (w8 a) (fun s=>⟨[(0,I a),(5,.sl 2000 0 s.1.length),(6,I s.2)],[(2000,⟨1,false,rws eU8 s.1⟩)]⟩) (fun e=>(.exit 0,⟨[(0,I a),(5,.sl 2000 0 e.1.length),(6,I e.2.1),(11,B e.2.2)],[(2000,⟨1,false,rws eU8 e.1⟩)]⟩)):=by
 refine lrX (fun s o h=> ?_)
 obtain ⟨_,_⟩:=s
 simp only [w8] at h
 simp only [DS,EF]
 exact go2
def fZ (n a:Int):Option (List UInt8):=
 (Loop (w8 n) (([]:List UInt8),(wrap .i64 (a-1)))).bind fun b=>
 some b.1
theorem jf {n a r} (h:fZ n a=some r):Call tab ow 213 [I n,I a] []=some (sl eU8 r,[]):=by
 rw [aj (af:=uP) rfl]
 unfold fZ at h
 simp only [uP,AK]
 have d1:= @Oy
 exact go2
end
def ke (s:Source) (t:List UInt8):Option Source:=
 br (cP (s.State.length+(([97,98,115,111,114,98]:List UInt8)).length) 1) (
 (fZ (t.length:Int) 4).bind fun a=>
 br (cP ((s.State++(([97,98,115,111,114,98]:List UInt8))).length+a.length) 1) (
 br (cP (((s.State++(([97,98,115,111,114,98]:List UInt8)))++a).length+t.length) 1) (
 (lh (((s.State++(([97,98,115,111,114,98]:List UInt8)))++a)++t)).bind fun b=>
 some (Source.mk s.Script s.At b 0)) none) none) none
theorem pO {s t r} (h:ke s t=some r):Call tab ow 191 [.agg [sl eExt s.Script,I s.At,S s.State,I s.Count],S t] []=some (.agg [sl eExt r.Script,I r.At,S r.State,I r.Count],[]):=by
 rw [aj (af:=tW) rfl]
 unfold ke at h
 simp only [tW,Ie]
 have d1:= @jf
 have d2:= @ru
 exact go2
def lK (a:List UInt8):Int×Int->Option ((Int×Int)⊕((Int×Int×Bool)))
 | (n,i)=>
   br (decide (i<8)) (
   (atL a i).bind fun c=>
   some (.inl (((wrap .i64 ((wrap .i64 (n*256))+(wrap .i64 (c.toNat:Int)))).tmod 2130706433),(wrap .i64 (i+1))))) (
   some (.inr (n,i,decide (i<8))))
theorem PM {a}:LX tab ow (.close []) Gy (lK a) (fun s=>⟨[(0,S a),(3,I s.1),(4,I s.2)],[]⟩) (fun e=>(.exit 0,⟨[(0,S a),(3,I e.1),(4,I e.2.1),(6,B e.2.2)],[]⟩)):=by
 refine lrX (fun s o h=> ?_)
 obtain ⟨_,_⟩:=s
 simp only [lK] at h
 simp only [Gy,Gw]
 exact go2
def tB (t:List UInt8):Option Int:=
 (Loop (lK t) (0,0)).bind fun a=>
 some a.1
theorem WS {t r} (h:tB t=some r):Call tab ow 304 [S t] []=some (I r,[]):=by
 rw [aj (af:=wN) rfl]
 unfold tB at h
 simp only [wN,CI]
 have d1:= @PM
 exact go2
def rB (s:Source):Option (Source×Ext):=
 br (decide ((s.Script.length:Int)>0)) (
 br (decide ((s.Script.length:Int)≠0)) (
 (atL s.Script (s.At.tmod (s.Script.length:Int))).bind fun x=>
 some ((Source.mk s.Script (wrap .i64 (s.At+1)) s.State s.Count),x)) none) (
 br (cP (s.State.length+(([100,114,97,119]:List UInt8)).length) 1) (
 (fZ s.Count 4).bind fun d=>
 br (cP ((s.State++(([100,114,97,119]:List UInt8))).length+d.length) 1) (
 (lh ((s.State++(([100,114,97,119]:List UInt8)))++d)).bind fun a=>
 (l6 a 0 8).bind fun y=>
 (tB y).bind fun c=>
 (l6 a 8 16).bind fun e=>
 (tB e).bind fun b=>
 some ((Source.mk s.Script s.At s.State (wrap .i64 (s.Count+1))),(Ext.mk c b))) none) none)
theorem Gb {s r} (h:rB s=some r):Call tab ow 192 [.agg [sl eExt s.Script,I s.At,S s.State,I s.Count]] []=some (.tup [.agg [sl eExt r.1.Script,I r.1.At,S r.1.State,I r.1.Count],.agg [I r.2.A,I r.2.B]],[]):=by
 rw [aj (af:=Ah) rfl]
 unfold rB at h
 simp only [Ah,Nd]
 have d1:= @jf
 have d2:= @ru
 have d3:= @WS
 exact go2
def jx (n b a:Int):Option Bool:=
 br (decide (b<=n)) (
 some (decide (n<=a))) (
 some false)
theorem y9 {n b a r} (h:jx n b a=some r):Call tab ow 68 [I n,I b,I a] []=some (B r,[]):=by
 rw [aj (af:=Xa) rfl]
 unfold jx at h
 simp only [Xa,b5z]
 exact go2
def rf (a:Int):Option Bool:=
 (jx a 0 2130706432).bind fun b=>
 some b
theorem Fu {a r} (h:rf a=some r):Call tab ow 132 [I a] []=some (B r,[]):=by
 rw [aj (af:=zl) rfl]
 unfold rf at h
 simp only [zl,Nw]
 have d1:= @y9
 exact go2
def u6 (a:Ext):Option Bool:=
 (rf a.A).bind fun c=>
 br c (
 (rf a.B).bind fun b=>
 some b) (
 some false)
theorem MH {a r} (h:u6 a=some r):Call tab ow 72 [.agg [I a.A,I a.B]] []=some (B r,[]):=by
 rw [aj (af:=H9) rfl]
 unfold u6 at h
 simp only [H9,W0]
 have d1:= @Fu
 exact go2
def iY (x:Ext):Option Bool:=
 (u6 x).bind fun a=>
 some (!a)
theorem EP {x r} (h:iY x=some r):Call tab ow 167 [.agg [I x.A,I x.B],.ptr 0 0 0 1] [⟨1,true,[[.fn 72 []]]⟩]=some (B r,[⟨1,true,[[.fn 72 []]]⟩]):=by
 rw [aj (af:=qh) rfl]
 unfold iY at h
 simp only [qh,EN]
 have d1:= @MH
 exact go2
def co (c:List Ext) (t:Int):Int->Option ((Int)⊕(Int⊕(Int×Bool)))
 |a=>
  br (decide (a<t)) (
  (atL c a).bind fun x=>
  (iY x).bind fun b=>
  br b (
  some (.inr (.inl a))) (
  some (.inl (wrap .i64 (a+1))))) (
  some (.inr (.inr (a,decide (a<t)))))
theorem jo {a t}:LX tab ow (.close [5005]) jS (co a t) (fun s=>⟨[(0,sl eExt a),(1,.fn 167 [.ptr 0 0 0 1]),(7,I t),(8,I s)],[(0,⟨1,true,[[.fn 72 []]]⟩)]⟩) (alt (fun e=>((.ret,⟨[(4,I e)],[(0,⟨1,true,[[.fn 72 []]]⟩)]⟩):bR×St)) (fun e=>(.exit 0,⟨[(0,sl eExt a),(1,.fn 167 [.ptr 0 0 0 1]),(7,I t),(8,I e.1),(9,B e.2)],[(0,⟨1,true,[[.fn 72 []]]⟩)]⟩))):=by
 refine lrX (fun s o h=> ?_)
 simp only [co] at h
 simp only [jS,jR]
 have d1:= @EP
 exact go2
def cF (s:List Ext):Option Int:=
 (Loop (co s (s.length:Int)) 0).bind (alt (fun a=>
 some a) (fun b=>
 some (-1:Int)))
theorem jQ {s r} (h:cF s=some r):Call tab ow 283 [sl eExt s,.fn 167 [.ptr 0 0 0 1]] [⟨1,true,[[.fn 72 []]]⟩]=some (I r,[⟨1,true,[[.fn 72 []]]⟩]):=by
 rw [aj (af:=ey) rfl]
 unfold cF at h
 simp only [ey,gY]
 have d1:= @jo
 exact go2
def cr (s:List Ext):Option Bool:=
 (cF s).bind fun a=>
 some (decide (a>=0))
theorem j4 {s r} (h:cr s=some r):Call tab ow 166 [sl eExt s,.fn 167 [.ptr 0 0 0 1]] [⟨1,true,[[.fn 72 []]]⟩]=some (B r,[⟨1,true,[[.fn 72 []]]⟩]):=by
 rw [aj (af:=dU) rfl]
 unfold cr at h
 simp only [dU,jv]
 have d1:= @jQ
 exact go2
def gu (a:List Ext):Option Bool:=
 (cr a).bind fun b=>
 some (!b)
theorem pv {a r} (h:gu a=some r):Call tab ow 71 [.fn 72 [],sl eExt a] []=some (B r,[]):=by
 rw [aj (af:=uO) rfl]
 unfold gu at h
 simp only [uO,Ip]
 have d1:= @j4
 exact go2
def hO (l:List Ext):Option (List Ext):=br (cP l.length 16) (some l) none
theorem wO (x:Ext) (l:List Ext) (a:cP (x::l).length 16=true):Call (Oq 73 bF) SW 73 [sl eExt (x::l)] []=some (.sl 0 0 (x::l).length,[⟨2,false,rws eExt (x::l)⟩]):=by
 rw [aj (af:=bF) (M7 _ _)]
 rw [ah] at a
 simp+decide only [bF,j1,fun k=>mk0 eExt k,a31,go_sem,reduceIte,Nat.reduceAdd,a]
theorem xE {l r:List Ext} (h:hO l=some r):Call tab ow 73 [sl eExt l] []=some (.sl 0 0 r.length,[⟨2,false,rws eExt r⟩]):=by
 unfold hO at h
 obtain ⟨hb,h⟩:=brg h
 cases h
 rw [R2 (g:=WF 73 bF 2) rfl]
 cases l with
 |a=>rfl
 |cons x l=>exact wO x l hb
def mW (m:List Int) (t:List UInt8) (c:Int):(List Int)×Int->Option (((List Int)×Int)⊕(((List Int)×Int×Bool)))
 | (b,a)=>
   br (decide (a<c)) (
   (atL t a).bind fun x=>
   br (decide (0<=(wrap .i64 (a.tdiv 8)))&&decide ((wrap .i64 (a.tdiv 8)).toNat<25)) (
   (b[(wrap .i64 (a.tdiv 8)).toNat]?).bind fun d=>
   br (decide (0<=(wrap .i64 (8*(a.tmod 8))))) (
   br (decide (0<=(wrap .i64 (a.tdiv 8)))&&decide ((wrap .i64 (a.tdiv 8)).toNat<25)) (
   br (decide ((wrap .i64 (a.tdiv 8)).toNat<b.length)) (
   some (.inl ((b.set ((wrap .i64 (a.tdiv 8)).toNat) (xi .u64 d (bC .u64 (wrap .u64 (x.toNat:Int)) (wrap .i64 (8*(a.tmod 8)))))),(wrap .i64 (a+1))))) none) none) none) none) (
   some (.inr (b,a,decide (a<c))))
abbrev AZ (m a:List Int):List (Nat×Blk):=[(1000,⟨25,true,[ar .u64 m]⟩),(2001,⟨25,true,[ar .u64 a]⟩)]
theorem V7 {m t a}:LX tab ow (.close []) B6 (mW m t a) (fun s=>⟨[(2,.ptr 1000 0 0 1),(3,.ptr 2001 0 0 1),(7,sl eU8 t),(8,I a),(9,I s.2)],AZ m s.1⟩) (fun e=>(.exit 0,⟨[(2,.ptr 1000 0 0 1),(3,.ptr 2001 0 0 1),(7,sl eU8 t),(8,I a),(9,I e.2.1),(10,B e.2.2)],AZ m e.1⟩)):=by
 refine lrX (fun s o h=> ?_)
 obtain ⟨_,_⟩:=s
 simp only [mW] at h
 simp only [AZ,B6]
 exact go2
def By (a:List UInt8):Option (List Int):=
 (Loop (mW (nZ 25) a (a.length:Int)) ((nZ 25),0)).bind fun b=>
 br (decide (b.1.length=25)) (
 br (decide (b.1.length=25)) (
 br (decide (b.1.length=25)) (
 some b.1) none) none) none
theorem a3I {a r} (h:By a=some r):Call tab ow 344 [sl eU8 a] []=some (.agg (ar .u64 r),[]):=by
 rw [aj (af:=zC) rfl]
 unfold By at h
 simp only [zC,NU]
 have d1:= @V7
 exact go2
def ff (x k:Int):Option Int:=
 br (decide (0<=(cM .u64 (wrap .u64 k) 63))) (
 br (decide (0<=(wrap .u64 (64-(cM .u64 (wrap .u64 k) 63))))) (
 some (xi .u64 (bC .u64 x (cM .u64 (wrap .u64 k) 63)) (bW .u64 x (wrap .u64 (64-(cM .u64 (wrap .u64 k) 63)))))) none) none
theorem B2 {x k r} (h:ff x k=some r):Call tab ow 376 [.lit (.int .u64 x),I k] []=some (.lit (.int .u64 r),[]):=by
 rw [aj (af:=im) rfl]
 unfold ff at h
 simp only [im,pB]
 exact go2
def gK (e k i h:List Int) (l:Int) (j:List Int) (f:Int):(List Int)×Int->Option (((List Int)×Int)⊕(((List Int)×Int×Bool)))
 | (b,a)=>
   br (decide (a<25)) (
   br (decide (0<=a)&&decide (a.toNat<25)) (
   (e[a.toNat]?).bind fun c=>
   br (decide (0<=(a.tmod 5))&&decide ((a.tmod 5).toNat<5)) (
   (b[(a.tmod 5).toNat]?).bind fun d=>
   br (decide (0<=(a.tmod 5))&&decide ((a.tmod 5).toNat<5)) (
   br (decide ((a.tmod 5).toNat<b.length)) (
   some (.inl ((b.set ((a.tmod 5).toNat) (nh .u64 d c)),(wrap .i64 (a+1))))) none) none) none) none) (
   some (.inr (b,a,decide (a<25))))
abbrev pj (e d c b a:List Int):List (Nat×Blk):=[(0,⟨25,true,[ar .u64 e]⟩),(1001,⟨25,true,[ar .i64 d]⟩),(2001,⟨24,true,[ar .u64 c]⟩),(6002,⟨5,true,[ar .u64 a]⟩),(6003,⟨25,true,[ar .u64 b]⟩)]
theorem Hy {i f c b j d a}:LX tab ow (.close []) ph (gK i f c b j d a) (fun s=>⟨[(0,.ptr 0 0 0 1),(2,.ptr 1001 0 0 1),(5,.lit (.int .u64 j)),(6,.ptr 6002 0 0 1),(7,.ptr 6003 0 0 1),(20,.agg (ar .u64 d)),(21,I a),(26,.ptr 0 0 0 1),(27,I s.2)],pj i f c b s.1⟩) (fun e=>(.exit 2,⟨[(0,.ptr 0 0 0 1),(2,.ptr 1001 0 0 1),(5,.lit (.int .u64 j)),(6,.ptr 6002 0 0 1),(7,.ptr 6003 0 0 1),(20,.agg (ar .u64 d)),(21,I a),(26,.ptr 0 0 0 1),(27,I e.2.1),(28,B e.2.2)],pj i f c b e.1⟩)):=by
 refine lrX (fun s o h=> ?_)
 obtain ⟨_,_⟩:=s
 simp only [gK] at h
 simp only [pj,ph]
 exact go2
def gH (e d i c:List Int) (o:Int) (n:List Int) (p:Int):(List Int)×Int->Option (((List Int)×Int)⊕(((List Int)×Int×Bool)))
 | (b,a)=>
   br (decide (a<25)) (
   br (decide (0<=a)&&decide (a.toNat<25)) (
   (e[a.toNat]?).bind fun j=>
   br (decide (0<=((wrap .i64 ((a.tmod 5)+4)).tmod 5))&&decide (((wrap .i64 ((a.tmod 5)+4)).tmod 5).toNat<5)) (
   (c[((wrap .i64 ((a.tmod 5)+4)).tmod 5).toNat]?).bind fun k=>
   br (decide (0<=((wrap .i64 ((a.tmod 5)+1)).tmod 5))&&decide (((wrap .i64 ((a.tmod 5)+1)).tmod 5).toNat<5)) (
   (c[((wrap .i64 ((a.tmod 5)+1)).tmod 5).toNat]?).bind fun h=>
   (ff h 1).bind fun m=>
   br (decide (0<=a)&&decide (a.toNat<25)) (
   (d[a.toNat]?).bind fun l=>
   (ff (nh .u64 j (nh .u64 k m)) l).bind fun f=>
   br (decide (0<=(wrap .i64 ((wrap .i64 (a.tdiv 5))+(wrap .i64 (5*((wrap .i64 ((wrap .i64 (2*(a.tmod 5)))+(wrap .i64 (3*(wrap .i64 (a.tdiv 5)))))).tmod 5))))))&&decide ((wrap .i64 ((wrap .i64 (a.tdiv 5))+(wrap .i64 (5*((wrap .i64 ((wrap .i64 (2*(a.tmod 5)))+(wrap .i64 (3*(wrap .i64 (a.tdiv 5)))))).tmod 5))))).toNat<25)) (
   br (decide ((wrap .i64 ((wrap .i64 (a.tdiv 5))+(wrap .i64 (5*((wrap .i64 ((wrap .i64 (2*(a.tmod 5)))+(wrap .i64 (3*(wrap .i64 (a.tdiv 5)))))).tmod 5))))).toNat<b.length)) (
   some (.inl ((b.set ((wrap .i64 ((wrap .i64 (a.tdiv 5))+(wrap .i64 (5*((wrap .i64 ((wrap .i64 (2*(a.tmod 5)))+(wrap .i64 (3*(wrap .i64 (a.tdiv 5)))))).tmod 5))))).toNat) f),(wrap .i64 (a+1))))) none) none) none) none) none) none) (
   some (.inr (b,a,decide (a<25))))
abbrev pp (d c a e b:List Int):List (Nat×Blk):=[(0,⟨25,true,[ar .u64 d]⟩),(1001,⟨25,true,[ar .i64 c]⟩),(2001,⟨24,true,[ar .u64 a]⟩),(6002,⟨5,true,[ar .u64 e]⟩),(6003,⟨25,true,[ar .u64 b]⟩)]
theorem Hw {c b a d j f i}:LX tab ow (.close [16011,17013]) ob (gH c b a d j f i) (fun s=>⟨[(0,.ptr 0 0 0 1),(2,.ptr 1001 0 0 1),(5,.lit (.int .u64 j)),(6,.ptr 6002 0 0 1),(7,.ptr 6003 0 0 1),(20,.agg (ar .u64 f)),(21,I i),(41,.ptr 0 0 0 1),(42,I s.2)],pp c b a d s.1⟩) (fun e=>(.exit 4,⟨[(0,.ptr 0 0 0 1),(2,.ptr 1001 0 0 1),(5,.lit (.int .u64 j)),(6,.ptr 6002 0 0 1),(7,.ptr 6003 0 0 1),(20,.agg (ar .u64 f)),(21,I i),(41,.ptr 0 0 0 1),(42,I e.2.1),(43,B e.2.2)],pp c b a d e.1⟩)):=by
 refine lrX (fun s o h=> ?_)
 obtain ⟨_,_⟩:=s
 simp only [gH] at h
 simp only [pp,ob]
 have d1:= @B2
 exact go2
def gJ (h n l c:List Int) (m:Int) (k:List Int) (i:Int) (e:List Int):(List Int)×Int->Option (((List Int)×Int)⊕(((List Int)×Int×Bool)))
 | (b,a)=>
   br (decide (a<25)) (
   br (decide (0<=a)&&decide (a.toNat<25)) (
   (e[a.toNat]?).bind fun f=>
   br (decide (0<=(wrap .i64 ((wrap .i64 (a-(a.tmod 5)))+((wrap .i64 ((a.tmod 5)+2)).tmod 5))))&&decide ((wrap .i64 ((wrap .i64 (a-(a.tmod 5)))+((wrap .i64 ((a.tmod 5)+2)).tmod 5))).toNat<25)) (
   (c[(wrap .i64 ((wrap .i64 (a-(a.tmod 5)))+((wrap .i64 ((a.tmod 5)+2)).tmod 5))).toNat]?).bind fun j=>
   br (decide (0<=(wrap .i64 ((wrap .i64 (a-(a.tmod 5)))+((wrap .i64 ((a.tmod 5)+1)).tmod 5))))&&decide ((wrap .i64 ((wrap .i64 (a-(a.tmod 5)))+((wrap .i64 ((a.tmod 5)+1)).tmod 5))).toNat<25)) (
   (c[(wrap .i64 ((wrap .i64 (a-(a.tmod 5)))+((wrap .i64 ((a.tmod 5)+1)).tmod 5))).toNat]?).bind fun d=>
   br (decide (0<=a)&&decide (a.toNat<25)) (
   br (decide (a.toNat<b.length)) (
   some (.inl ((b.set a.toNat (nh .u64 f (Qw .u64 j d))),(wrap .i64 (a+1))))) none) none) none) none) none) (
   some (.inr (b,a,decide (a<25))))
abbrev p7 (a e c d b:List Int):List (Nat×Blk):=[(0,⟨25,true,[ar .u64 b]⟩),(1001,⟨25,true,[ar .i64 a]⟩),(2001,⟨24,true,[ar .u64 e]⟩),(6002,⟨5,true,[ar .u64 c]⟩),(6003,⟨25,true,[ar .u64 d]⟩)]
theorem Hv {b a f i j c k d}:LX tab ow (.close []) o6 (gJ b a f i j c k d) (fun s=>⟨[(0,.ptr 0 0 0 1),(2,.ptr 1001 0 0 1),(5,.lit (.int .u64 j)),(7,.ptr 6003 0 0 1),(20,.agg (ar .u64 c)),(21,I k),(82,.agg (ar .u64 d)),(83,I s.2)],p7 b a f i s.1⟩) (fun e=>(.exit 6,⟨[(0,.ptr 0 0 0 1),(2,.ptr 1001 0 0 1),(5,.lit (.int .u64 j)),(7,.ptr 6003 0 0 1),(20,.agg (ar .u64 c)),(21,I k),(82,.agg (ar .u64 d)),(83,I e.2.1),(84,B e.2.2)],p7 b a f i e.1⟩)):=by
 refine lrX (fun s o h=> ?_)
 obtain ⟨_,_⟩:=s
 simp only [gJ] at h
 simp only [p7,o6]
 exact go2
def gI (h e t:List Int):(List Int)×Int->Option (((List Int)×Int)⊕(((List Int)×Int×Bool)))
 | (d,a)=>
   br (decide (a<24)) (
   br (decide (0<=a)&&decide (a.toNat<24)) (
   (t[a.toNat]?).bind fun x=>
   (Loop (gK d h e (nZ 25) x t a) ((nZ 5),0)).bind fun i=>
   (Loop (gH d h e i.1 x t a) ((nZ 25),0)).bind fun c=>
   br (decide (c.1.length=25)) (
   (Loop (gJ h e i.1 c.1 x t a c.1) (d,0)).bind fun b=>
   (b.1[0]?).bind fun f=>
   br (decide (0<b.1.length)) (
   some (.inl ((b.1.set 0 (nh .u64 f x)),(wrap .i64 (a+1))))) none) none) none) (
   some (.inr (d,a,decide (a<24))))
abbrev p8 (b c a:List Int):List (Nat×Blk):=[(0,⟨25,true,[ar .u64 a]⟩),(1001,⟨25,true,[ar .i64 b]⟩),(2001,⟨24,true,[ar .u64 c]⟩)]
theorem Ht {b a t}:LX tab ow (.close [6002,6003,16011,17013]) pr (gI b a t) (fun s=>⟨[(0,.ptr 0 0 0 1),(2,.ptr 1001 0 0 1),(20,.agg (ar .u64 t)),(21,I s.2)],p8 b a s.1⟩) (fun e=>(.exit 0,⟨[(0,.ptr 0 0 0 1),(2,.ptr 1001 0 0 1),(20,.agg (ar .u64 t)),(21,I e.2.1),(22,B e.2.2)],p8 b a e.1⟩)):=by
 refine lrX (fun s o h=> ?_)
 obtain ⟨_,_⟩:=s
 simp only [gI] at h
 simp only [p8,pr]
 have d1:= @Hy
 have d2:= @Hw
 have d3:= @Hv
 exact go2
def mr (m:List Int):Option (List Int):=
 (Loop (gI ([0,1,62,28,27,36,44,6,55,20,3,10,43,25,39,41,45,15,21,8,18,2,61,56,14]:List Int) ([1,32898,9223372036854808714,9223372039002292224,32907,2147483649,9223372039002292353,9223372036854808585,138,136,2147516425,2147483658,2147516555,9223372036854775947,9223372036854808713,9223372036854808579,9223372036854808578,9223372036854775936,32778,9223372039002259466,9223372039002292353,9223372036854808704,2147483649,9223372039002292232]:List Int) ([1,32898,9223372036854808714,9223372039002292224,32907,2147483649,9223372039002292353,9223372036854808585,138,136,2147516425,2147483658,2147516555,9223372036854775947,9223372036854808713,9223372036854808579,9223372036854808578,9223372036854775936,32778,9223372039002259466,9223372039002292353,9223372036854808704,2147483649,9223372039002292232]:List Int)) (m,0)).bind fun a=>
 some a.1
theorem KX {m r} (h:mr m=some r):Call tab ow 345 [.ptr 0 0 0 1] [⟨25,true,[ar .u64 m]⟩]=some (.tup [],[⟨25,true,[ar .u64 r]⟩]):=by
 rw [aj (af:=nl) rfl]
 unfold mr at h
 simp only [nl,An]
 have d1:= @Ht
 exact go2
end
end Go.AI.Fn
set_option linter.unusedVariables false
set_option linter.unusedSimpArgs false
set_option maxRecDepth 100000
set_option maxHeartbeats 1000000
namespace Go.AI.Fn
noncomputable section
open IntKind (wrap)
section
@[local go_sem] theorem b1n:mkR 2000 []=rws eU8 []:=rfl
@[local go_sem] theorem b1m:mkR 6012 []=rws eU8 []:=rfl
def jt (a:List Int):(List UInt8)×Int->Option (((List UInt8)×Int)⊕(((List UInt8)×Int×Bool)))
 | (l,t)=>
   br (decide (t<200)) (
   br (decide (0<=(wrap .i64 (t.tdiv 8)))&&decide ((wrap .i64 (t.tdiv 8)).toNat<25)) (
   (a[(wrap .i64 (t.tdiv 8)).toNat]?).bind fun x=>
   br (decide (0<=(wrap .i64 (8*(t.tmod 8))))) (
   br (cP ((l++([(UInt8.ofInt (bW .u64 x (wrap .i64 (8*(t.tmod 8)))))]:List UInt8)).length) 1) (
   some (.inl ((l++([(UInt8.ofInt (bW .u64 x (wrap .i64 (8*(t.tmod 8)))))]:List UInt8)),(wrap .i64 (t+1))))) none) none) none) (
   some (.inr (l,t,decide (t<200))))
abbrev tg (a:List Int) (l:List UInt8):List (Nat×Blk):=[(0,⟨25,true,[ar .u64 a]⟩),(2000,⟨1,false,rws eU8 l⟩)]
theorem Mx {a}:LX tab ow (.close [6012,6013]) Bh (jt a) (fun s=>⟨[(0,.ptr 0 0 0 1),(3,.sl 2000 0 s.1.length),(6,I s.2)],tg a s.1⟩) (fun e=>(.exit 0,⟨[(0,.ptr 0 0 0 1),(3,.sl 2000 0 e.1.length),(6,I e.2.1),(7,B e.2.2)],tg a e.1⟩)):=by
 refine lrX (fun s o h=> ?_)
 obtain ⟨_,_⟩:=s
 simp only [jt] at h
 simp only [tg,Bh,Cn]
 exact go2
def rL (m:List Int):Option ((List UInt8)×(List Int)):=
 (Loop (jt m) (([]:List UInt8),0)).bind fun a=>
 some (a.1,m)
theorem Qe {m r} (h:rL m=some r):Call tab ow 346 [.ptr 0 0 0 1] [⟨25,true,[ar .u64 m]⟩]=some (sl eU8 r.1,[⟨25,true,[ar .u64 r.2]⟩]):=by
 rw [aj (af:=sn) rfl]
 unfold rL at h
 simp only [sn,yg]
 have d1:= @Mx
 exact go2
end
section
@[local go_sem] theorem c1W:mkR 2000 []=rws eU8 []:=rfl
@[local go_sem] theorem c2j:mkR 8001 []=rws eU8 []:=rfl
@[local go_sem] theorem c1T:mkR 10001 []=rws eU8 []:=rfl
def oH (t:List (List UInt8)) (b:Int):(List UInt8)×Int->Option (((List UInt8)×Int)⊕(((List UInt8)×Int×Bool)))
 | (l,a)=>
   br (decide (a<b)) (
   (atL t a).bind fun x=>
   br (cP ((l++x).length) 1) (
   some (.inl ((l++x),(wrap .i64 (a+1))))) none) (
   some (.inr (l,a,decide (a<b))))
theorem Z1 {t a}:LX tab ow (.close [6002]) Di (oH t a) (fun s=>⟨[(3,.sl 2000 0 s.1.length),(10,sl (eL eU8) t),(11,I a),(12,I s.2)],[(2000,⟨1,false,rws eU8 s.1⟩)]⟩) (fun e=>(.exit 0,⟨[(3,.sl 2000 0 e.1.length),(10,sl (eL eU8) t),(11,I a),(12,I e.2.1),(13,B e.2.2)],[(2000,⟨1,false,rws eU8 e.1⟩)]⟩)):=by
 refine lrX (fun s o h=> ?_)
 obtain ⟨_,_⟩:=s
 simp only [oH] at h
 simp only [Di]
 exact go2
def ml (b:List UInt8):(List UInt8)->Option (((List UInt8))⊕(((List UInt8)×Bool)))
 |a=>
  br (((a.length:Int).tmod 136) !=0) (
  br (cP ((a++([(0:UInt8)]:List UInt8)).length) 1) (
  some (.inl (a++([(0:UInt8)]:List UInt8)))) none) (
  some (.inr (a,(((a.length:Int).tmod 136) !=0))))
abbrev Dt (a b:List UInt8):List (Nat×Blk):=[(2000,⟨1,false,rws eU8 b⟩),(8001,⟨1,false,rws eU8 a⟩)]
theorem Y5 {a}:LX tab ow (.close [10001,10002]) CO (ml a) (fun s=>⟨[(3,.sl 2000 0 s.length)],Dt a s⟩) (fun e=>(.exit 2,⟨[(3,.sl 2000 0 e.1.length),(26,B e.2)],Dt a e.1⟩)):=by
 refine lrX (fun s o h=> ?_)
 simp only [ml] at h
 simp only [Dt,CO]
 exact go2
def oi (h c:List UInt8) (e:List Int):(List Int)×Int->Option (((List Int)×Int)⊕(((List Int)×Int×Bool)))
 | (b,a)=>
   br (decide (a<25)) (
   br (decide (0<=a)&&decide (a.toNat<25)) (
   (e[a.toNat]?).bind fun d=>
   br (decide (0<=a)&&decide (a.toNat<25)) (
   (b[a.toNat]?).bind fun f=>
   br (decide (0<=a)&&decide (a.toNat<25)) (
   br (decide (a.toNat<b.length)) (
   some (.inl ((b.set a.toNat (nh .u64 f d)),(wrap .i64 (a+1))))) none) none) none) none) (
   some (.inr (b,a,decide (a<25))))
abbrev Dp (b:List UInt8) (a:List Int):List (Nat×Blk):=[(8001,⟨1,false,rws eU8 b⟩),(12001,⟨25,true,[ar .u64 a]⟩)]
theorem WI {c a b}:LX tab ow (.close []) B1 (oi c a b) (fun s=>⟨[(3,sl eU8 a),(6,.ptr 12001 0 0 1),(46,.agg (ar .u64 b)),(47,I s.2)],Dp c s.1⟩) (fun e=>(.exit 6,⟨[(3,sl eU8 a),(6,.ptr 12001 0 0 1),(46,.agg (ar .u64 b)),(47,I e.2.1),(48,B e.2.2)],Dp c e.1⟩)):=by
 refine lrX (fun s o h=> ?_)
 obtain ⟨_,_⟩:=s
 simp only [oi] at h
 simp only [Dp,B1]
 exact go2
def oG (e:List UInt8):(List Int)×(List UInt8)->Option (((List Int)×(List UInt8))⊕(((List Int)×(List UInt8)×Bool)))
 | (m,a)=>
   br (decide ((a.length:Int)>0)) (
   (l6 a 0 136).bind fun y=>
   (By y).bind fun f=>
   (Loop (oi e a f) (m,0)).bind fun b=>
   (mr b.1).bind fun c=>
   (l6 a 136 (a.length:Int)).bind fun d=>
   some (.inl (c,d))) (
   some (.inr (m,a,decide ((a.length:Int)>0))))
abbrev wH (a:List UInt8) (m:List Int):List (Nat×Blk):=[(8001,⟨1,false,rws eU8 a⟩),(12001,⟨25,true,[ar .u64 m]⟩)]
theorem Zj {a}:LX tab ow (.close [15002,20000,2000]) Ay (oG a) (fun s=>⟨[(3,sl eU8 s.2),(6,.ptr 12001 0 0 1)],wH a s.1⟩) (fun e=>(.exit 4,⟨[(3,sl eU8 e.2.1),(6,.ptr 12001 0 0 1),(41,B e.2.2)],wH a e.1⟩)):=by
 refine lrX (fun s o h=> ?_)
 obtain ⟨_,_⟩:=s
 simp only [oG] at h
 simp only [wH,Ay]
 have d1:= @a3I
 have d2:= @WI
 have d3:= @KX
 exact go2
def sB (b:(List (List UInt8))):Option (List UInt8):=
 (Loop (oH b (b.length:Int)) (([]:List UInt8),0)).bind fun e=>
 br (cP ((e.1++([(1:UInt8)]:List UInt8)).length) 1) (
 (Loop (ml ([(1:UInt8)]:List UInt8)) (e.1++([(1:UInt8)]:List UInt8))).bind fun a=>
 br (decide (0<=(wrap .i64 ((a.1.length:Int)-1)))) (
 br (decide ((wrap .i64 ((a.1.length:Int)-1)).toNat<a.1.length)) (
 (a.1[(wrap .i64 ((a.1.length:Int)-1)).toNat]?).bind fun f=>
 br (decide (0<=(wrap .i64 ((a.1.length:Int)-1)))) (
 br (decide ((wrap .i64 ((a.1.length:Int)-1)).toNat<a.1.length)) (
 (a.1[(wrap .i64 ((a.1.length:Int)-1)).toNat]?).bind fun i=>
 (Loop (oG ([(1:UInt8)]:List UInt8)) ((nZ 25),(a.1.set ((wrap .i64 ((a.1.length:Int)-1)).toNat) (UInt8.ofInt (xi .u8 (f.toNat:Int) 128))))).bind fun c=>
 (rL c.1).bind fun d=>
 (l6 d.1 0 32).bind fun h=>
 some h) none) none) none) none) none
theorem y8 {a r} (h:sB a=some r):Call tab ow 284 [sl (eL eU8) a] []=some (S r,[]):=by
 rw [aj (af:=Cz) rfl]
 unfold sB at h
 simp only [Cz,Sr]
 have d1:= @Z1
 have d2:= @Y5
 have d3:= @Zj
 simp only [wH] at d3
 have d4:= @Qe
 exact go2
end
section
@[local go_sem] theorem c29:mkR 2002 []=rws (eL eU8) []:=rfl
def Bj (t:List UInt8):Option (List UInt8):=
 br (cP t.length 1) (
 (sB ([t]:List (List UInt8))).bind fun a=>
 some a) none
theorem T9 {t r} (h:Bj t=some r):Call tab ow 168 [S t] []=some (S r,[]):=by
 rw [aj (af:=Da) rfl]
 unfold Bj at h
 simp only [Da,Qy]
 have d1:= @y8
 exact go2
end
def Gd (g:Gate) (a:Int):Option Bool:=
 br (g.Op==3) (
 (rf g.K).bind fun r_=>
 (jx g.Op 1 8).bind fun r_2=>
 br r_2 (
 br (g.A==0) (
 br (g.B==0) (
 some r_) (
 some false)) (
 some false)) (
 some false)) (
 br (g.Op==4) (
 br (g.Op==4) (
 (jx g.A 0 (wrap .i64 (a-1))).bind fun u=>
 (jx g.B 0 (wrap .i64 (a-1))).bind fun v=>
 (jx g.Op 1 8).bind fun z=>
 br z (
 br u (
 br v (
 some (g.K==0)) (
 some false)) (
 some false)) (
 some false)) (
 br (g.Op==8) (
 (jx g.A 0 (wrap .i64 (a-1))).bind fun x=>
 (jx g.Op 1 8).bind fun y=>
 br y (
 br x (
 br (g.B==0) (
 some (g.K==0)) (
 some false)) (
 some false)) (
 some false)) (
 (jx g.Op 1 8).bind fun w=>
 br w (
 br (g.A==0) (
 br (g.B==0) (
 some (g.K==0)) (
 some false)) (
 some false)) (
 some false)))) (
 br (g.Op==5) (
 br (g.Op==5) (
 (jx g.A 0 (wrap .i64 (a-1))).bind fun t=>
 (jx g.B 0 (wrap .i64 (a-1))).bind fun o=>
 (jx g.Op 1 8).bind fun k=>
 br k (
 br t (
 br o (
 some (g.K==0)) (
 some false)) (
 some false)) (
 some false)) (
 br (g.Op==8) (
 (jx g.A 0 (wrap .i64 (a-1))).bind fun n=>
 (jx g.Op 1 8).bind fun m=>
 br m (
 br n (
 br (g.B==0) (
 some (g.K==0)) (
 some false)) (
 some false)) (
 some false)) (
 (jx g.Op 1 8).bind fun l=>
 br l (
 br (g.A==0) (
 br (g.B==0) (
 some (g.K==0)) (
 some false)) (
 some false)) (
 some false)))) (
 br (g.Op==6) (
 br (g.Op==6) (
 (jx g.A 0 (wrap .i64 (a-1))).bind fun c=>
 (jx g.B 0 (wrap .i64 (a-1))).bind fun e=>
 (jx g.Op 1 8).bind fun h=>
 br h (
 br c (
 br e (
 some (g.K==0)) (
 some false)) (
 some false)) (
 some false)) (
 br (g.Op==8) (
 (jx g.A 0 (wrap .i64 (a-1))).bind fun i=>
 (jx g.Op 1 8).bind fun b=>
 br b (
 br i (
 br (g.B==0) (
 some (g.K==0)) (
 some false)) (
 some false)) (
 some false)) (
 (jx g.Op 1 8).bind fun p=>
 br p (
 br (g.A==0) (
 br (g.B==0) (
 some (g.K==0)) (
 some false)) (
 some false)) (
 some false)))) (
 br (g.Op==7) (
 (jx g.A 0 (wrap .i64 (a-1))).bind fun d=>
 (jx g.B 0 (wrap .i64 (a-1))).bind fun r=>
 (jx g.Op 1 8).bind fun f=>
 br f (
 br d (
 br r (
 some (g.K==0)) (
 some false)) (
 some false)) (
 some false)) (
 br (g.Op==8) (
 (jx g.A 0 (wrap .i64 (a-1))).bind fun q=>
 (jx g.Op 1 8).bind fun j=>
 br j (
 br q (
 br (g.B==0) (
 some (g.K==0)) (
 some false)) (
 some false)) (
 some false)) (
 (jx g.Op 1 8).bind fun s=>
 br s (
 br (g.A==0) (
 br (g.B==0) (
 some (g.K==0)) (
 some false)) (
 some false)) (
 some false)))))))
theorem a5L {g a r} (h:Gd g a=some r):Call tab ow 127 [.agg [I g.Op,I g.A,I g.B,I g.K],I a] []=some (B r,[]):=by
 rw [aj (af:=Dx) rfl]
 unfold Gd at h
 simp only [Dx,QW]
 have d1:= @Fu
 have d2:= @y9
 exact go2
def fA (c:Int) (t:List Gate) (d:Int) (e:List Gate):Int×Int->Option ((Int×Int)⊕((Int×Int×Bool)))
 | (a,b)=>
   br (decide (b<d)) (
   (atL t b).bind fun x=>
   br (x.Op==c) (
   some (.inl ((wrap .i64 (a+1)),(wrap .i64 (b+1))))) (
   some (.inl (a,(wrap .i64 (b+1)))))) (
   some (.inr (a,b,decide (b<d))))
theorem EU {a t c b}:LX tab ow (.close [5002]) sS (fA a t c b) (fun s=>⟨[(1,I a),(5,I s.1),(9,sl eGate t),(10,I c),(11,I s.2)],[(1000,⟨1,true,[[sl eGate b]]⟩)]⟩) (fun e=>(.exit 0,⟨[(1,I a),(5,I e.1),(9,sl eGate t),(10,I c),(11,I e.2.1),(12,B e.2.2)],[(1000,⟨1,true,[[sl eGate b]]⟩)]⟩)):=by
 refine lrX (fun s o h=> ?_)
 obtain ⟨_,_⟩:=s
 simp only [fA] at h
 simp only [sS,sP]
 exact go2
def iH (c:Circuit) (a:Int):Option Int:=
 (Loop (fA a c.Gates (c.Gates.length:Int) c.Gates) (0,0)).bind fun b=>
 some b.1
theorem wB {c a r} (h:iH c a=some r):Call tab ow 128 [.agg [sl eGate c.Gates],I a] []=some (I r,[]):=by
 rw [aj (af:=kU) rfl]
 unfold iH at h
 simp only [kU,p5]
 have d1:= @EU
 exact go2
def fJ (t:List Gate) (c:Int) (d:List Gate):Int->Option ((Int)⊕((Int×Int×Int×Int)⊕(Int×Bool)))
 |a=>
  br (decide (a<c)) (
  (atL t a).bind fun x=>
  (Gd x a).bind fun b=>
  br (!b) (
  some (.inr (.inl (x.Op,x.A,x.B,x.K)))) (
  some (.inl (wrap .i64 (a+1))))) (
  some (.inr (.inr (a,decide (a<c)))))
theorem Ou {t b a}:LX tab ow (.close [6003,7002]) Ek (fJ t b a) (fun s=>⟨[(1,.ptr 1000 0 0 1),(11,sl eGate t),(12,I b),(13,I s)],[(1000,⟨1,true,[[sl eGate a]]⟩)]⟩) (alt (fun e=>((.ret,⟨[(2,B false)],[(1000,⟨1,true,[[sl eGate a]]⟩),(6003,⟨4,true,[[I e.1,I e.2.1,I e.2.2.1,I e.2.2.2]]⟩)]⟩):bR×St)) (fun e=>(.exit 0,⟨[(1,.ptr 1000 0 0 1),(11,sl eGate t),(12,I b),(13,I e.1),(14,B e.2)],[(1000,⟨1,true,[[sl eGate a]]⟩)]⟩))):=by
 refine lrX (fun s o h=> ?_)
 simp only [fJ] at h
 simp only [Ek,Ej]
 have d1:= @a5L
 exact go2
def vX (c:Circuit):Option Bool:=
 (jx (c.Gates.length:Int) 1 15).bind fun e=>
 br (!e) (
 some false) (
 (Loop (fJ c.Gates (c.Gates.length:Int) c.Gates) 0).bind (alt (fun d=>
 some false) (fun b=>
 (iH c 2).bind fun a=>
 some (decide (a<=7)))))
theorem UB {c r} (h:vX c=some r):Call tab ow 36 [.agg [sl eGate c.Gates]] []=some (B r,[]):=by
 rw [aj (af:=uf) rfl]
 unfold vX at h
 simp only [uf,AV]
 have d1:= @y9
 have d2:= @Ou
 have d3:= @wB
 exact go2
def iR (x:Int):Option Bool:=
 (rf x).bind fun a=>
 some (!a)
theorem ER {x r} (h:iR x=some r):Call tab ow 248 [I x,.ptr 0 0 0 1] [⟨1,true,[[.fn 132 []]]⟩]=some (B r,[⟨1,true,[[.fn 132 []]]⟩]):=by
 rw [aj (af:=uj) rfl]
 unfold iR at h
 simp only [uj,Ic]
 have d1:= @Fu
 exact go2
def cH (c:List Int) (t:Int):Int->Option ((Int)⊕(Int⊕(Int×Bool)))
 |a=>
  br (decide (a<t)) (
  (atL c a).bind fun x=>
  (iR x).bind fun b=>
  br b (
  some (.inr (.inl a))) (
  some (.inl (wrap .i64 (a+1))))) (
  some (.inr (.inr (a,decide (a<t)))))
theorem km {a t}:LX tab ow (.close [5005]) lT (cH a t) (fun s=>⟨[(0,sl eI a),(1,.fn 248 [.ptr 0 0 0 1]),(7,I t),(8,I s)],[(0,⟨1,true,[[.fn 132 []]]⟩)]⟩) (alt (fun e=>((.ret,⟨[(4,I e)],[(0,⟨1,true,[[.fn 132 []]]⟩)]⟩):bR×St)) (fun e=>(.exit 0,⟨[(0,sl eI a),(1,.fn 248 [.ptr 0 0 0 1]),(7,I t),(8,I e.1),(9,B e.2)],[(0,⟨1,true,[[.fn 132 []]]⟩)]⟩))):=by
 refine lrX (fun s o h=> ?_)
 simp only [cH] at h
 simp only [lT,lY]
 have d1:= @ER
 exact go2
def cX (s:List Int):Option Int:=
 (Loop (cH s (s.length:Int)) 0).bind (alt (fun a=>
 some a) (fun b=>
 some (-1:Int)))
theorem kP {s r} (h:cX s=some r):Call tab ow 335 [sl eI s,.fn 248 [.ptr 0 0 0 1]] [⟨1,true,[[.fn 132 []]]⟩]=some (I r,[⟨1,true,[[.fn 132 []]]⟩]):=by
 rw [aj (af:=ge) rfl]
 unfold cX at h
 simp only [ge,j7]
 have d1:= @km
 exact go2
def cJ (s:List Int):Option Bool:=
 (cX s).bind fun a=>
 some (decide (a>=0))
theorem jW {s r} (h:cJ s=some r):Call tab ow 247 [sl eI s,.fn 248 [.ptr 0 0 0 1]] [⟨1,true,[[.fn 132 []]]⟩]=some (B r,[⟨1,true,[[.fn 132 []]]⟩]):=by
 rw [aj (af:=fa) rfl]
 unfold cJ at h
 simp only [fa,l0]
 have d1:= @kP
 exact go2
def kj (a:List Int):Option Bool:=
 (cJ a).bind fun b=>
 some (!b)
theorem Hp {a r} (h:kj a=some r):Call tab ow 131 [.fn 132 [],sl eI a] []=some (B r,[]):=by
 rw [aj (af:=zz) rfl]
 unfold kj at h
 simp only [zz,N2]
 have d1:= @jW
 exact go2
def nF (t:Setting):Option Bool:=
 (jx t.Rate 1 3).bind fun c=>
 br c (
 (jx t.Queries 1 8).bind fun b=>
 br b (
 (jx t.Grind 0 12).bind fun a=>
 some a) (
 some false)) (
 some false)
theorem AT {t r} (h:nF t=some r):Call tab ow 77 [.agg [I t.Rate,I t.Queries,I t.Grind]] []=some (B r,[]):=by
 rw [aj (af:=ul) rfl]
 unfold nF at h
 simp only [ul,HR]
 have d1:= @y9
 exact go2
def vV (a:List UInt8):Option Bool:=
 some ((a.length:Int)==32)
theorem CR {a r} (h:vV a=some r):Call tab ow 119 [S a] []=some (B r,[]):=by
 rw [aj (af:=Dw) rfl]
 unfold vV at h
 simp only [Dw,Q1]
 exact go2
def yS (s:Source):Option Bool:=
 br (decide ((s.Script.length:Int)<=64)) (
 (gu s.Script).bind fun d=>
 br d (
 (vV s.State).bind fun c=>
 br c (
 (jx s.At 0 1000000).bind fun b=>
 br b (
 (jx s.Count 0 1000000).bind fun a=>
 some a) (
 some false)) (
 some false)) (
 some false)) (
 some false)
theorem Ys {s r} (h:yS s=some r):Call tab ow 78 [.agg [sl eExt s.Script,I s.At,S s.State,I s.Count]] []=some (B r,[]):=by
 rw [aj (af:=xq) rfl]
 unfold yS at h
 simp only [xq,Lk]
 have d1:= @pv
 have d2:= @CR
 have d3:= @y9
 exact go2
def uG (s:Source):Option Int:=
 some (wrap .i64 (1000000-(mx s.At s.Count)))
theorem OM {s r} (h:uG s=some r):Call tab ow 79 [.agg [sl eExt s.Script,I s.At,S s.State,I s.Count]] []=some (I r,[]):=by
 rw [aj (af:=qy) rfl]
 unfold uG at h
 simp only [qy,Ea]
 exact go2
def Kc (a b:Int):Option Int:=
 some ((wrap .i64 (a+b)).tmod 2130706433)
theorem XB {a b r} (h:Kc a b=some r):Call tab ow 164 [I a,I b] []=some (I r,[]):=by
 rw [aj (af:=Po) rfl]
 unfold Kc at h
 simp only [Po,a7p]
 exact go2
def Re (a b:Int):Option Int:=
 some ((wrap .i64 ((wrap .i64 (a-b))+2130706433)).tmod 2130706433)
theorem a7G {a b r} (h:Re a b=some r):Call tab ow 170 [I a,I b] []=some (I r,[]):=by
 rw [aj (af:=Pk) rfl]
 unfold Re at h
 simp only [Pk,a7k]
 exact go2
def yk (a b:Int):Option Int:=
 some ((wrap .i64 (a*b)).tmod 2130706433)
theorem Pp {a b r} (h:yk a b=some r):Call tab ow 171 [I a,I b] []=some (I r,[]):=by
 rw [aj (af:=Pr) rfl]
 unfold yk at h
 simp only [Pr,a7M]
 exact go2
def eX (s:bj):Option Int:=
 br (decide (0<=(wrap .i64 (s.Cols-1)))) (
 some (bC .i64 1 (wrap .i64 (s.Cols-1)))) none
theorem mM {s r} (h:eX s=some r):Call tab ow 133 [.agg [I s.Rows,I s.Cols,I s.Publics,sl aA s.A,sl aA s.B,sl aA s.C]] []=some (I r,[]):=by
 rw [aj (af:=qd) rfl]
 unfold eX at h
 simp only [qd,Em]
 exact go2
def dm (j h:List Tri) (t i:Int) (e:List (Int×Int)) (d c:Int):(List Tri)×Int->Option (((List Tri)×Int)⊕(((List Tri)×Int×Bool)))
 | (b,a)=>
   br (decide (a<d)) (
   (atL e a).bind fun x=>
   (Kc (i4 c x.1 b) x.2).bind fun f=>
   some (.inl ((iu c x.1 f b),(wrap .i64 (a+1))))) (
   some (.inr (b,a,decide (a<d))))
abbrev wa (b a:List Tri) (c:Int) (d:List Tri):List (Nat×Blk):=[(0,⟨4,true,[[I c,.mp 1,.mp 2,.mp 3]]⟩),(1,⟨0,true,[bz d]⟩),(2,⟨0,true,[bz b]⟩),(3,⟨0,true,[bz a]⟩)]
theorem Om {f a t d i b c}:LX tab ow (.close [3002,4007,5013]) Ew (dm f a t d i b c) (fun s=>⟨[(0,.ptr 0 0 0 1),(2,I t),(3,I d),(11,sl (eA2 eI) i),(12,I b),(13,I s.2)],wa f a c s.1⟩) (fun e=>(.exit 0,⟨[(0,.ptr 0 0 0 1),(2,I t),(3,I d),(11,sl (eA2 eI) i),(12,I b),(13,I e.2.1),(14,B e.2.2)],wa f a c e.1⟩)):=by
 refine lrX (fun s o h=> ?_)
 obtain ⟨_,_⟩:=s
 simp only [dm] at h
 simp only [wa,Ew,EI]
 have d1:= @XB
 exact go2
def dR (a:(List (Int×Int))) (c d m:Int) (f e b:List Tri):Option (Int×(List Tri)×(List Tri)×(List Tri)):=
 (Loop (dm e b c d a (a.length:Int) m) (f,0)).bind fun h=>
 some ((wrap .i64 (m+1)),h.1,(iu m c 1 e),(iu m d 1 b))
theorem Ud {a d e m b f c r} (h:dR a d e m b f c=some r):Call tab ow 286 [.ptr 0 0 0 1,sl (eA2 eI) a,I d,I e] [⟨4,true,[[I m,.mp 1,.mp 2,.mp 3]]⟩,⟨0,true,[bz b]⟩,⟨0,true,[bz f]⟩,⟨0,true,[bz c]⟩]=some (.tup [],[⟨4,true,[[I r.1,.mp 1,.mp 2,.mp 3]]⟩,⟨0,true,[bz r.2.1]⟩,⟨0,true,[bz r.2.2.1]⟩,⟨0,true,[bz r.2.2.2]⟩]):=by
 rw [aj (af:=uN) rfl]
 unfold dR at h
 simp only [uN,Bd]
 have d1:= @Om
 exact go2
section
@[local go_sem] theorem a6X:mkR 2006 []=rws (eA2 eI) []:=rfl
def dI (b a:Int) (m:List Int):Option ((List (Int×Int))):=
 (atL m b).bind fun x=>
 some ([(x,a)]:List (Int×Int))
theorem MT {b a m r} (h:dI b a m=some r):Call tab ow 285 [I b,I a,.ptr 0 0 0 1] [⟨1,true,[[sl eI m]]⟩]=some (.sl 1 0 r.length,[⟨1,true,[[sl eI m]]⟩,⟨2,false,rws (eA2 eI) r⟩]):=by
 rw [aj (af:=ov) rfl]
 unfold dI at h
 simp only [ov,Bz]
 exact go2
end
section
@[local go_sem] theorem b1l:mkR 5004 []=rws (eA2 eI) []:=rfl
def rW (a:Gate) (k:Int) (f:List Int) (m:Int) (n l o:List Tri):Option (Int×(List Tri)×(List Tri)×(List Tri)):=
 br (a.Op==3) (
 (dR ([(0,a.K)]:List (Int×Int)) 0 k m n l o).bind fun y=>
 some (y.1,y.2.1,y.2.2.1,y.2.2.2)) (
 br (a.Op==4) (
 (dI a.A 1 f).bind fun w=>
 (dI a.B 1 f).bind fun p=>
 br (cP ((w++p).length) 16) (
 (dR (w++p) 0 k m n l o).bind fun i=>
 some (i.1,i.2.1,i.2.2.1,i.2.2.2)) none) (
 br (a.Op==5) (
 (dI a.A 1 f).bind fun v=>
 (dI a.B 2130706432 f).bind fun u=>
 br (cP ((v++u).length) 16) (
 (dR (v++u) 0 k m n l o).bind fun j=>
 some (j.1,j.2.1,j.2.2.1,j.2.2.2)) none) (
 br (a.Op==6) (
 (dI a.A 1 f).bind fun z=>
 (atL f a.B).bind fun x=>
 (dR z x k m n l o).bind fun h=>
 some (h.1,h.2.1,h.2.2.1,h.2.2.2)) (
 br (a.Op==7) (
 (dI a.B 1 f).bind fun t=>
 (dR t 0 k m n l o).bind fun d=>
 (dI a.A 1 f).bind fun s=>
 (dR s 0 k d.1 d.2.1 d.2.2.1 d.2.2.2).bind fun e=>
 some (e.1,e.2.1,e.2.2.1,e.2.2.2)) (
 br (a.Op==8) (
 (dI a.A 1 f).bind fun r=>
 (atL f a.A).bind fun x2=>
 (dR r x2 k m n l o).bind fun b=>
 (dI a.A 1 f).bind fun q=>
 (dR q 0 k b.1 b.2.1 b.2.2.1 b.2.2.2).bind fun c=>
 some (c.1,c.2.1,c.2.2.1,c.2.2.2)) (
 some (m,n,l,o)))))))
theorem Qr {a d e m b f c r} (h:rW a d e m b f c=some r):Call tab ow 172 [.ptr 0 0 0 1,.agg [I a.Op,I a.A,I a.B,I a.K],I d,sl eI e] [⟨4,true,[[I m,.mp 1,.mp 2,.mp 3]]⟩,⟨0,true,[bz b]⟩,⟨0,true,[bz f]⟩,⟨0,true,[bz c]⟩]=some (.tup [],[⟨4,true,[[I r.1,.mp 1,.mp 2,.mp 3]]⟩,⟨0,true,[bz r.2.1]⟩,⟨0,true,[bz r.2.2.1]⟩,⟨0,true,[bz r.2.2.2]⟩]):=by
 rw [aj (af:=rU) rfl]
 unfold rW at h
 simp only [rU,F9]
 have d1:= @Ud
 have d2:= @MT
 exact go2
end
def A2 (t:Tri):au:=⟨t.1,t.2.1,t.2.2⟩
def tv (m:List Tri):Option (List au×List Tri):=
 br (ms m&&decide (m.length<1073741824)) (
 some ((fV (m.filter nzT)).map A2,m)) none
theorem a0D {m r} (h:tv m=some r):Call tab ow 173 [.mp 0] [⟨0,true,[bz m]⟩]=some (sl aA r.1,[⟨0,true,[bz r.2]⟩]):=by
 unfold tv at h
 obtain ⟨hb,h⟩:=brg h
 cases h
 rw [R2 (g:=a5Y false) rfl]
 exact b80 aA A2 rfl (fun _=>rfl) hb
section
@[local go_sem] theorem a3M:mkR 6000 []=rws eI []:=rfl
@[local go_sem] theorem a3K:mkR 11002 []=rws eI []:=rfl
@[local go_sem] theorem a3L:mkR 12002 []=rws eI []:=rfl
def eD (t:Int) (c:List Gate) (f i h e d:Int):Int->Option ((Int)⊕((Bool×Int)))
 |b=>
  (eX (bj.mk e b d ([]:List au) ([]:List au) ([]:List au))).bind fun a=>
  br (decide (a<(mx (wrap .i64 (d+1)) t))) (
  some (.inl (wrap .i64 (b+1)))) (
  some (.inr (decide (a<(mx (wrap .i64 (d+1)) t)),b)))
abbrev nO (c:List Gate) (a f b d h e:Int):List (Nat×Blk):=[(1000,⟨1,true,[[sl eGate c]]⟩),(1001,⟨6,true,[[I a,I f,I b,.lit (.slice none 0 0),.lit (.slice none 0 0),.lit (.slice none 0 0)]]⟩),(2003,⟨6,true,[[I d,I e,I h,.lit (.slice none 0 0),.lit (.slice none 0 0),.lit (.slice none 0 0)]]⟩)]
theorem FM {t c a f b d i}:LX tab ow (.close [4001]) vd (eD t c a f b d i) (fun s=>⟨[(1,.ptr 1000 0 0 1),(2,.ptr 1001 0 0 1),(3,.ptr 2003 0 0 1),(4,I t)],nO c a f b d i s⟩) (fun e=>(.exit 0,⟨[(1,.ptr 1000 0 0 1),(2,.ptr 1001 0 0 1),(3,.ptr 2003 0 0 1),(4,I t),(29,B e.1)],nO c a f b d i e.2⟩)):=by
 refine lrX (fun s o h=> ?_)
 simp only [eD] at h
 simp only [nO,vd,vD]
 have d1:= @mM
 exact go2
def eJ (j:List Gate) (d:Int) (m:List Gate) (n h i e k f:Int):(List Int)×Int×Int×Int->Option (((List Int)×Int×Int×Int)⊕(((List Int)×Int×Int×Int×Bool)))
 | (l,b,c,a)=>
   br (decide (a<d)) (
   (atL j a).bind fun x=>
   br (x.Op==2) (
   br (cP ((l++([b]:List Int)).length) 8) (
   some (.inl ((l++([b]:List Int)),(wrap .i64 (b+1)),c,(wrap .i64 (a+1))))) none) (
   br (cP ((l++([c]:List Int)).length) 8) (
   some (.inl ((l++([c]:List Int)),b,(wrap .i64 (c+1)),(wrap .i64 (a+1))))) none)) (
   some (.inr (l,b,c,a,decide (a<d))))
abbrev nT (f:List Gate) (h c d a e b:Int) (l:List Int):List (Nat×Blk):=[(1000,⟨1,true,[[sl eGate f]]⟩),(1001,⟨6,true,[[I h,I c,I d,.lit (.slice none 0 0),.lit (.slice none 0 0),.lit (.slice none 0 0)]]⟩),(2003,⟨6,true,[[I a,I e,I b,.lit (.slice none 0 0),.lit (.slice none 0 0),.lit (.slice none 0 0)]]⟩),(6000,⟨1,false,rws eI l⟩)]
theorem FR {l i j k c d a f b}:LX tab ow (.close [9002,11002,11003,12002,12003]) vF (eJ l i j k c d a f b) (fun s=>⟨[(1,.ptr 1000 0 0 1),(2,.ptr 1001 0 0 1),(3,.ptr 2003 0 0 1),(5,.sl 6000 0 s.1.length),(6,I s.2.1),(7,I s.2.2.1),(38,sl eGate l),(39,I i),(40,I s.2.2.2)],nT j k c d a f b s.1⟩) (fun e=>(.exit 2,⟨[(1,.ptr 1000 0 0 1),(2,.ptr 1001 0 0 1),(3,.ptr 2003 0 0 1),(5,.sl 6000 0 e.1.length),(6,I e.2.1),(7,I e.2.2.1),(38,sl eGate l),(39,I i),(40,I e.2.2.2.1),(41,B e.2.2.2.2)],nT j k c d a f b e.1⟩)):=by
 refine lrX (fun s o h=> ?_)
 obtain ⟨_,_,_,_⟩:=s
 simp only [eJ] at h
 simp only [nT,vF,vl]
 exact go2
def fX (d:List Int) (s:List Gate) (e:Int) (q:List Gate) (l o p j n k:Int):(List Tri)×(List Tri)×(List Tri)×Int×Int->Option (((List Tri)×(List Tri)×(List Tri)×Int×Int)⊕(((List Tri)×(List Tri)×(List Tri)×Int×Bool×Int)))
 | (m,f,h,b,c)=>
   br (decide (b<e)) (
   (atL s b).bind fun i=>
   br (decide (0<=b)) (
   br (decide (b.toNat<d.length)) (
   (d[b.toNat]?).bind fun r=>
   (rW i r d c m f h).bind fun a=>
   some (.inl (a.2.1,a.2.2.1,a.2.2.2,(wrap .i64 (b+1)),a.1))) none) none) (
   some (.inr (m,f,h,b,decide (b<e),c)))
abbrev o2 (k:List Int) (i:List Gate) (e f h b d c:Int) (m j l:List Tri) (a:Int):List (Nat×Blk):=[(1000,⟨1,true,[[sl eGate i]]⟩),(1001,⟨6,true,[[I e,I f,I h,.lit (.slice none 0 0),.lit (.slice none 0 0),.lit (.slice none 0 0)]]⟩),(2003,⟨6,true,[[I b,I d,I c,.lit (.slice none 0 0),.lit (.slice none 0 0),.lit (.slice none 0 0)]]⟩),(6000,⟨1,false,rws eI k⟩),(14000,⟨0,true,[bz m]⟩),(14001,⟨0,true,[bz j]⟩),(14002,⟨0,true,[bz l]⟩),(14004,⟨4,true,[[I a,.mp 14000,.mp 14001,.mp 14002]]⟩)]
theorem Gp {k m l j c f i a d b}:LX tab ow (.close [17003,18007]) sQ (fX k m l j c f i a d b) (fun s=>⟨[(2,.ptr 1001 0 0 1),(3,.ptr 2003 0 0 1),(5,.sl 6000 0 k.length),(10,.ptr 14004 0 0 1),(66,sl eGate m),(67,I l),(68,I s.2.2.2.1)],o2 k j c f i a d b s.1 s.2.1 s.2.2.1 s.2.2.2.2⟩) (fun e=>(.exit 4,⟨[(2,.ptr 1001 0 0 1),(3,.ptr 2003 0 0 1),(5,.sl 6000 0 k.length),(10,.ptr 14004 0 0 1),(66,sl eGate m),(67,I l),(68,I e.2.2.2.1),(69,B e.2.2.2.2.1)],o2 k j c f i a d b e.1 e.2.1 e.2.2.1 e.2.2.2.2.2⟩)):=by
 refine lrX (fun s o h=> ?_)
 obtain ⟨_,_,_,_,_⟩:=s
 simp only [fX] at h
 simp only [o2,sQ,sR]
 have d1:= @Qr
 exact go2
def kn (n:List Int) (o q p:List Tri) (e:List Gate) (l j:Int) (m:Bool) (i:List Gate) (k d c f h b:Int):Int->Option ((Int)⊕((Bool×Int)))
 |a=>
  br (decide (0<=a)) (
  br (decide ((bC .i64 1 a)<b)) (
  some (.inl (wrap .i64 (a+1)))) (
  some (.inr (decide ((bC .i64 1 a)<b),a)))) none
abbrev oe (j:List Int) (k m l:List Tri) (f:List Gate) (i c b d e h a:Int):List (Nat×Blk):=[(1000,⟨1,true,[[sl eGate f]]⟩),(1001,⟨6,true,[[I i,I c,I b,.lit (.slice none 0 0),.lit (.slice none 0 0),.lit (.slice none 0 0)]]⟩),(2003,⟨6,true,[[I a,I d,I e,.lit (.slice none 0 0),.lit (.slice none 0 0),.lit (.slice none 0 0)]]⟩),(6000,⟨1,false,rws eI j⟩),(14000,⟨0,true,[bz k]⟩),(14001,⟨0,true,[bz m]⟩),(14002,⟨0,true,[bz l]⟩),(14004,⟨4,true,[[I h,.mp 14000,.mp 14001,.mp 14002]]⟩)]
theorem GM {p q t r c m j n i l b a d f k}:LX tab ow (.close []) sN (kn p q t r c m j n i l b a d f k) (fun s=>⟨[(2,.ptr 1001 0 0 1),(3,.ptr 2003 0 0 1),(5,.sl 6000 0 p.length),(10,.ptr 14004 0 0 1),(66,sl eGate c),(67,I m),(68,I j),(69,B n)],oe p q t r i l b a d f k s⟩) (fun e=>(.exit 6,⟨[(2,.ptr 1001 0 0 1),(3,.ptr 2003 0 0 1),(5,.sl 6000 0 p.length),(10,.ptr 14004 0 0 1),(66,sl eGate c),(67,I m),(68,I j),(69,B n),(89,B e.1)],oe p q t r i l b a d f k e.2⟩)):=by
 refine lrX (fun s o h=> ?_)
 simp only [kn] at h
 simp only [oe,sN,sK]
 exact go2
def lH (a:Circuit):Option bj:=
 (iH a 2).bind fun c=>
 (Loop (eD (wrap .i64 ((a.Gates.length:Int)-c)) a.Gates 0 0 0 1 c) 2).bind fun d=>
 (eX (bj.mk 1 d.2 c ([]:List au) ([]:List au) ([]:List au))).bind fun j=>
 (Loop (eJ a.Gates (a.Gates.length:Int) a.Gates 0 0 0 1 d.2 c) (([]:List Int),1,j,0)).bind fun e=>
 (Loop (fX e.1 a.Gates (a.Gates.length:Int) a.Gates 0 0 0 1 d.2 c) (([]:List Tri),([]:List Tri),([]:List Tri),0,0)).bind fun b=>
 (Loop (kn e.1 b.1 b.2.1 b.2.2.1 a.Gates (a.Gates.length:Int) b.2.2.2.1 b.2.2.2.2.1 a.Gates 0 0 0 d.2 c b.2.2.2.2.2) 1).bind fun h=>
 (tv b.1).bind fun k=>
 (tv b.2.1).bind fun f=>
 (tv b.2.2.1).bind fun i=>
 some (bj.mk h.2 d.2 c k.1 f.1 i.1)
theorem JY {a r} (h:lH a=some r):Call tab ow 81 [.agg [sl eGate a.Gates]] []=some (.agg [I r.Rows,I r.Cols,I r.Publics,sl aA r.A,sl aA r.B,sl aA r.C],[]):=by
 rw [aj (af:=mg) rfl]
 unfold lH at h
 simp only [mg,i9]
 have d1:= @wB
 have d2:= @FM
 have d3:= @mM
 have d4:= @FR
 have d5:= @Gp
 have d6:= @GM
 have d7:= @a0D
 exact go2
end
section
@[local go_sem] theorem a5A: ∀k,BQ 2003 k [I (0:Int)]=rws eI (List.replicate k (0:Int)):=fun _=>M6 eI (0:Int) _ _
def mE (s:bj) (b a:List Int):Option (List Int):=
 br (decide (0<=s.Cols)) (
 br (zg (bC .i64 1 s.Cols) (bC .i64 1 s.Cols) 8) (
 br (decide (0<(List.replicate ((bC .i64 (1:Int) s.Cols).toNat) (0:Int)).length)) (
 ((List.replicate ((bC .i64 (1:Int) s.Cols).toNat) (0:Int))[0]?).bind fun x=>
 br (decide ((1:Int)<=(((List.replicate ((bC .i64 (1:Int) s.Cols).toNat) (0:Int)).length:Nat):Int))) (
 br (decide (1+((List.replicate ((bC .i64 (1:Int) s.Cols).toNat) (0:Int)).length-1)=(List.replicate ((bC .i64 (1:Int) s.Cols).toNat) (0:Int)).length)) (
 (eX s).bind fun c=>
 br (decide (0<=c)&&decide (c<=(((List.replicate ((bC .i64 (1:Int) s.Cols).toNat) (0:Int)).length:Nat):Int))) (
 br (decide (c.toNat+((List.replicate ((bC .i64 (1:Int) s.Cols).toNat) (0:Int)).length-c.toNat)=(List.replicate ((bC .i64 (1:Int) s.Cols).toNat) (0:Int)).length)) (
 some (Cj (Cj ((List.replicate ((bC .i64 (1:Int) s.Cols).toNat) (0:Int)).set 0 (1:Int)) 1 (min b.length ((List.replicate ((bC .i64 (1:Int) s.Cols).toNat) (0:Int)).length-1)) b) c.toNat (min a.length ((List.replicate ((bC .i64 (1:Int) s.Cols).toNat) (0:Int)).length-c.toNat)) a)) none) none) none) none) none) none) none
theorem Kw {s b a r} (h:mE s b a=some r):Call tab ow 83 [.agg [I s.Rows,I s.Cols,I s.Publics,sl aA s.A,sl aA s.B,sl aA s.C],sl eI b,sl eI a] []=some (sl eI r,[]):=by
 rw [aj (af:=na) rfl]
 unfold mE at h
 simp only [na,A3]
 have d1:= @mM
 exact go2
end
def mz (s:Source):Option Source:=
 (hO s.Script).bind fun a=>
 some (Source.mk a s.At s.State s.Count)
theorem Ks {s r} (h:mz s=some r):Call tab ow 112 [.agg [sl eExt s.Script,I s.At,S s.State,I s.Count]] []=some (.agg [sl eExt r.Script,I r.At,S r.State,I r.Count],[]):=by
 rw [aj (af:=nw) rfl]
 unfold mz at h
 simp only [nw,zj]
 have d1:= @xE
 exact go2
section
@[local go_sem] theorem c6t:mkR 2000 []=rws eExt []:=rfl
@[local go_sem] theorem c6r:mkR 6003 []=rws eExt []:=rfl
def tH (t:List Int) (b:Int):(List Ext)×Int->Option (((List Ext)×Int)⊕(((List Ext)×Int×Bool)))
 | (l,a)=>
   br (decide (a<b)) (
   (atL t a).bind fun x=>
   br (cP ((l++([(Ext.mk x 0)]:List Ext)).length) 16) (
   some (.inl ((l++([(Ext.mk x 0)]:List Ext)),(wrap .i64 (a+1))))) none) (
   some (.inr (l,a,decide (a<b))))
theorem a51 {t a}:LX tab ow (.close [6003,6004]) Sj (tH t a) (fun s=>⟨[(3,.sl 2000 0 s.1.length),(7,sl eI t),(8,I a),(9,I s.2)],[(2000,⟨2,false,rws eExt s.1⟩)]⟩) (fun e=>(.exit 0,⟨[(3,.sl 2000 0 e.1.length),(7,sl eI t),(8,I a),(9,I e.2.1),(10,B e.2.2)],[(2000,⟨2,false,rws eExt e.1⟩)]⟩)):=by
 refine lrX (fun s o h=> ?_)
 obtain ⟨_,_⟩:=s
 simp only [tH] at h
 simp only [Sj,RS]
 exact go2
def Ri (a:List Int):Option (List Ext):=
 (Loop (tH a (a.length:Int)) (([]:List Ext),0)).bind fun b=>
 some b.1
theorem b3v {a r} (h:Ri a=some r):Call tab ow 289 [sl eI a] []=some (sl eExt r,[]):=by
 rw [aj (af:=Kr) rfl]
 unfold Ri at h
 simp only [Kr,RY]
 have d1:= @a51
 exact go2
end
def fu (s:bj):Option (((List au)×(List au)×(List au))):=
 some (s.A,s.B,s.C)
theorem pc {s r} (h:fu s=some r):Call tab ow 177 [.agg [I s.Rows,I s.Cols,I s.Publics,sl aA s.A,sl aA s.B,sl aA s.C]] []=some (.agg [sl aA r.1,sl aA r.2.1,sl aA r.2.2],[]):=by
 rw [aj (af:=kV) rfl]
 unfold fu at h
 simp only [kV,wA]
 exact go2
section
@[local go_sem] theorem c2l:mkR 2012 []=rws eU8 []:=rfl
def lL (n:Int) (l:List UInt8):Option (List UInt8):=
 br (cP ((l++([(UInt8.ofInt (bW .i64 n 24)),(UInt8.ofInt (bW .i64 n 16)),(UInt8.ofInt (bW .i64 n 8)),(UInt8.ofInt n)]:List UInt8)).length) 1) (
 some (l++([(UInt8.ofInt (bW .i64 n 24)),(UInt8.ofInt (bW .i64 n 16)),(UInt8.ofInt (bW .i64 n 8)),(UInt8.ofInt n)]:List UInt8))) none
theorem nQ {n l r} (h:lL n l=some r):Call tab ow 225 [.sl 0 0 l.length,I n] [⟨1,false,rws eU8 l⟩]=some (.sl 0 0 r.length,[⟨1,false,rws eU8 r⟩]):=by
 rw [aj (af:=BJ) rfl]
 unfold lL at h
 simp only [BJ,SU]
 exact go2
end
section
@[local go_sem] theorem Yf:mkR 2000 []=rws eU8 []:=rfl
@[local go_sem] theorem Zl:mkR 2011 []=rws eU8 []:=rfl
@[local go_sem] theorem XQ:mkR 10007 []=rws eU8 []:=rfl
def dM (i:List UInt8) (t n p:List au) (k:Int) (e:List au) (d c f o:Int) (h j m:List au):(List UInt8)×Int->Option (((List UInt8)×Int)⊕(((List UInt8)×Int×Bool)))
 | (l,a)=>
   br (decide (a<d)) (
   (atL e a).bind fun x=>
   br (cP ((l++([(UInt8.ofInt x.Row),(UInt8.ofInt x.Col)]:List UInt8)).length) 1) (
   (lL x.Value (l++([(UInt8.ofInt x.Row),(UInt8.ofInt x.Col)]:List UInt8))).bind fun b=>
   some (.inl (b,(wrap .i64 (a+1))))) none) (
   some (.inr (l,a,decide (a<d))))
abbrev kX (e:List UInt8) (c a h:Int) (b d f:List au) (l:List UInt8):List (Nat×Blk):=[(1000,⟨6,true,[[I c,I a,I h,sl aA b,sl aA d,sl aA f]]⟩),(2000,⟨1,false,rws eU8 l⟩),(2011,⟨1,false,rws eU8 e⟩)]
theorem BM {f t m p k d i c a n b j l}:LX tab ow (.close [9002,10007,10008,10011]) eu (dM f t m p k d i c a n b j l) (fun s=>⟨[(3,.sl 2000 0 s.1.length),(22,.agg [sl aA t,sl aA m,sl aA p]),(23,I k),(30,sl aA d),(31,I i),(32,I s.2)],kX f c a n b j l s.1⟩) (fun e=>(.exit 2,⟨[(3,.sl 2000 0 e.1.length),(22,.agg [sl aA t,sl aA m,sl aA p]),(23,I k),(30,sl aA d),(31,I i),(32,I e.2.1),(33,B e.2.2)],kX f c a n b j l e.1⟩)):=by
 refine lrX (fun s o h=> ?_)
 obtain ⟨_,_⟩:=s
 simp only [dM] at h
 simp only [kX,eu,iA]
 have d1:= @nQ
 exact go2
def iI (p:List UInt8) (m q i:List au) (l:Int) (e:List au) (c r n o:Int) (j k h:List au):(List UInt8)×Int->Option (((List UInt8)×Int)⊕(((List UInt8)×Int×Bool)))
 | (d,a)=>
   br (decide (a<c)) (
   (atL e a).bind fun b=>
   br (cP ((d++([(UInt8.ofInt b.Row),(UInt8.ofInt b.Col)]:List UInt8)).length) 1) (
   (lL b.Value (d++([(UInt8.ofInt b.Row),(UInt8.ofInt b.Col)]:List UInt8))).bind fun f=>
   some (.inl (f,(wrap .i64 (a+1))))) none) (
   some (.inr (d,a,decide (a<c))))
abbrev ll (h:List UInt8) (i f e:Int) (c b a:List au) (d:List UInt8):List (Nat×Blk):=[(1000,⟨6,true,[[I i,I f,I e,sl aA c,sl aA b,sl aA a]]⟩),(2000,⟨1,false,rws eU8 d⟩),(2011,⟨1,false,rws eU8 h⟩)]
theorem BX {n k p b i f j q m l c d a}:LX tab ow (.close [9002,10007,10008,10011]) eu (iI n k p b i f j q m l c d a) (fun s=>⟨[(3,.sl 2000 0 s.1.length),(22,.agg [sl aA k,sl aA p,sl aA b]),(23,I i),(30,sl aA f),(31,I j),(32,I s.2)],ll n q m l c d a s.1⟩) (fun e=>(.exit 2,⟨[(3,.sl 2000 0 e.1.length),(22,.agg [sl aA k,sl aA p,sl aA b]),(23,I i),(30,sl aA f),(31,I j),(32,I e.2.1),(33,B e.2.2)],ll n q m l c d a e.1⟩)):=by
 refine lrX (fun s o h=> ?_)
 obtain ⟨_,_⟩:=s
 simp only [iI] at h
 simp only [ll,eu,iA]
 have d1:= @nQ
 exact go2
def iy (r:List UInt8) (q l o:List au) (j:Int) (d:List au) (b m h p:Int) (i k n:List au):(List UInt8)×Int->Option (((List UInt8)×Int)⊕(((List UInt8)×Int×Bool)))
 | (f,a)=>
   br (decide (a<b)) (
   (atL d a).bind fun c=>
   br (cP ((f++([(UInt8.ofInt c.Row),(UInt8.ofInt c.Col)]:List UInt8)).length) 1) (
   (lL c.Value (f++([(UInt8.ofInt c.Row),(UInt8.ofInt c.Col)]:List UInt8))).bind fun e=>
   some (.inl (e,(wrap .i64 (a+1))))) none) (
   some (.inr (f,a,decide (a<b))))
abbrev lM (i:List UInt8) (e a f:Int) (b c d:List au) (h:List UInt8):List (Nat×Blk):=[(1000,⟨6,true,[[I e,I a,I f,sl aA b,sl aA c,sl aA d]]⟩),(2000,⟨1,false,rws eU8 h⟩),(2011,⟨1,false,rws eU8 i⟩)]
theorem Bt {q p j m f b a k c n d i l}:LX tab ow (.close [9002,10007,10008,10011]) eu (iy q p j m f b a k c n d i l) (fun s=>⟨[(3,.sl 2000 0 s.1.length),(22,.agg [sl aA p,sl aA j,sl aA m]),(23,I f),(30,sl aA b),(31,I a),(32,I s.2)],lM q k c n d i l s.1⟩) (fun e=>(.exit 2,⟨[(3,.sl 2000 0 e.1.length),(22,.agg [sl aA p,sl aA j,sl aA m]),(23,I f),(30,sl aA b),(31,I a),(32,I e.2.1),(33,B e.2.2)],lM q k c n d i l e.1⟩)):=by
 refine lrX (fun s o h=> ?_)
 obtain ⟨_,_⟩:=s
 simp only [iy] at h
 simp only [lM,eu,iA]
 have d1:= @nQ
 exact go2
def iV (s:bj):Option (List UInt8):=
 br (cP ((([(115:UInt8),(121:UInt8),(115:UInt8),(116:UInt8),(101:UInt8),(109:UInt8)]:List UInt8)++([(UInt8.ofInt s.Rows),(UInt8.ofInt s.Cols),(UInt8.ofInt s.Publics)]:List UInt8)).length) 1) (
 (fu s).bind fun a=>
 (lL (a.1.length:Int) (([(115:UInt8),(121:UInt8),(115:UInt8),(116:UInt8),(101:UInt8),(109:UInt8)]:List UInt8)++([(UInt8.ofInt s.Rows),(UInt8.ofInt s.Cols),(UInt8.ofInt s.Publics)]:List UInt8))).bind fun f=>
 (Loop (dM ([(UInt8.ofInt s.Rows),(UInt8.ofInt s.Cols),(UInt8.ofInt s.Publics)]:List UInt8) a.1 a.2.1 a.2.2 0 a.1 (a.1.length:Int) s.Rows s.Cols s.Publics s.A s.B s.C) (f,0)).bind fun h=>
 (lL (a.2.1.length:Int) h.1).bind fun b=>
 (Loop (iI ([(UInt8.ofInt s.Rows),(UInt8.ofInt s.Cols),(UInt8.ofInt s.Publics)]:List UInt8) a.1 a.2.1 a.2.2 1 a.2.1 (a.2.1.length:Int) s.Rows s.Cols s.Publics s.A s.B s.C) (b,0)).bind fun e=>
 (lL (a.2.2.length:Int) e.1).bind fun c=>
 (Loop (iy ([(UInt8.ofInt s.Rows),(UInt8.ofInt s.Cols),(UInt8.ofInt s.Publics)]:List UInt8) a.1 a.2.1 a.2.2 2 a.2.2 (a.2.2.length:Int) s.Rows s.Cols s.Publics s.A s.B s.C) (c,0)).bind fun d=>
 some d.1) none
theorem EO {s r} (h:iV s=some r):Call tab ow 351 [.agg [I s.Rows,I s.Cols,I s.Publics,sl aA s.A,sl aA s.B,sl aA s.C]] []=some (sl eU8 r,[]):=by
 rw [aj (af:=jM) rfl]
 unfold iV at h
 simp+decide only [jM,jO,go_sem,reduceIte,Nat.reduceAdd,Int.reduceAdd,Int.reduceMul,Int.reduceSub]
 obtain ⟨hb,h⟩:=brg h
 refine Jp hb ?_
 obtain ⟨r_,h1,h⟩:=bd h
 refine yG (pc h1) ?_
 simp+decide only [go_sem,reduceIte,Nat.reduceAdd,Int.reduceAdd,Int.reduceMul,Int.reduceSub]
 refine k8 ?_
 simp+decide only [mkL,go_sem,reduceIte,Nat.reduceAdd,Int.reduceAdd,Int.reduceMul,Int.reduceSub]
 obtain ⟨r_2,h1,h⟩:=bd h
 refine yG (nQ h1) ?_
 simp+decide only [go_sem,reduceIte,Nat.reduceAdd,Int.reduceAdd,Int.reduceMul,Int.reduceSub]
 obtain ⟨e_,h1,h⟩:=bd h
 refine Jr (lxE BM h1) ?_
 simp+decide only [go_sem,reduceIte,Nat.reduceAdd,Int.reduceAdd,Int.reduceMul,Int.reduceSub]
 refine k8 ?_
 simp+decide only [mkL,go_sem,reduceIte,Nat.reduceAdd,Int.reduceAdd,Int.reduceMul,Int.reduceSub]
 obtain ⟨r_4,h1,h⟩:=bd h
 refine yG (nQ h1) ?_
 simp+decide only [go_sem,reduceIte,Nat.reduceAdd,Int.reduceAdd,Int.reduceMul,Int.reduceSub]
 obtain ⟨e_2,h1,h⟩:=bd h
 refine Jr (lxE BX h1) ?_
 simp+decide only [go_sem,reduceIte,Nat.reduceAdd,Int.reduceAdd,Int.reduceMul,Int.reduceSub]
 refine k8 ?_
 simp+decide only [mkL,go_sem,reduceIte,Nat.reduceAdd,Int.reduceAdd,Int.reduceMul,Int.reduceSub]
 obtain ⟨r_6,h1,h⟩:=bd h
 refine yG (nQ h1) ?_
 simp+decide only [go_sem,reduceIte,Nat.reduceAdd,Int.reduceAdd,Int.reduceMul,Int.reduceSub]
 obtain ⟨e_3,h1,h⟩:=bd h
 refine Jr (lxE Bt h1) ?_
 simp+decide only [go_sem,reduceIte,Nat.reduceAdd,Int.reduceAdd,Int.reduceMul,Int.reduceSub]
 refine k8 ?_
 simp+decide only [mkL,go_sem,reduceIte,Nat.reduceAdd,Int.reduceAdd,Int.reduceMul,Int.reduceSub]
 obtain rfl:=cY h
 first|rfl| (simp only [bf,go_sem];done)
end
section
@[local go_sem] theorem b1w:mkR 2002 []=rws (eL eU8) []:=rfl
@[local go_sem] theorem b5s:mkR 2014 []=rws eU8 []:=rfl
def iM (l:List (List UInt8)) (h:List UInt8) (f:List Int) (e c i p:Int) (j k o:List au) (q m n:Int):(List UInt8)×Int->Option (((List UInt8)×Int)⊕(((List UInt8)×Int×Bool)))
 | (d,a)=>
   br (decide (a<e)) (
   (atL f a).bind fun x=>
   (lL x d).bind fun b=>
   some (.inl (b,(wrap .i64 (a+1))))) (
   some (.inr (d,a,decide (a<e))))
abbrev wm (l:List (List UInt8)) (a:List UInt8) (c b k:Int) (d e j:List au) (m f h:Int) (i:List UInt8):List (Nat×Blk):=[(1000,⟨6,true,[[I c,I b,I k,sl aA d,sl aA e,sl aA j]]⟩),(1001,⟨3,true,[[I m,I f,I h]]⟩),(2002,⟨1,false,rws (eL eU8) l⟩),(2004,⟨1,false,rws eU8 i⟩),(2014,⟨1,false,rws eU8 a⟩)]
theorem OG {l a m q c b n d f k p i j}:LX tab ow (.close [6002]) E0 (iM l a m q c b n d f k p i j) (fun s=>⟨[(7,.sl 2004 0 s.1.length),(26,sl eI m),(27,I q),(28,I s.2)],wm l a c b n d f k p i j s.1⟩) (fun e=>(.exit 0,⟨[(7,.sl 2004 0 e.1.length),(26,sl eI m),(27,I q),(28,I e.2.1),(29,B e.2.2)],wm l a c b n d f k p i j e.1⟩)):=by
 refine lrX (fun s o h=> ?_)
 obtain ⟨_,_⟩:=s
 simp only [iM] at h
 simp only [wm,E0,DT]
 have d1:= @nQ
 exact go2
def vS (s:bj) (t:Setting) (a:List Int):Option (List UInt8):=
 (iV s).bind fun c=>
 (sB ([c]:List (List UInt8))).bind fun b=>
 br (cP b.length 1) (
 br (cP ((b++([(UInt8.ofInt t.Rate),(UInt8.ofInt t.Queries),(UInt8.ofInt t.Grind)]:List UInt8)).length) 1) (
 (Loop (iM ([c]:List (List UInt8)) ([(UInt8.ofInt t.Rate),(UInt8.ofInt t.Queries),(UInt8.ofInt t.Grind)]:List UInt8) a (a.length:Int) s.Rows s.Cols s.Publics s.A s.B s.C t.Rate t.Queries t.Grind) ((b++([(UInt8.ofInt t.Rate),(UInt8.ofInt t.Queries),(UInt8.ofInt t.Grind)]:List UInt8)),0)).bind fun d=>
 some d.1) none) none
theorem Vd {s t a r} (h:vS s t a=some r):Call tab ow 290 [.agg [I s.Rows,I s.Cols,I s.Publics,sl aA s.A,sl aA s.B,sl aA s.C],.agg [I t.Rate,I t.Queries,I t.Grind],sl eI a] []=some (sl eU8 r,[]):=by
 rw [aj (af:=uv) rfl]
 unfold vS at h
 simp only [uv,B9]
 have d1:= @EO
 have d2:= @y8
 have d3:= @OG
 exact go2
end
end
end Go.AI.Fn
