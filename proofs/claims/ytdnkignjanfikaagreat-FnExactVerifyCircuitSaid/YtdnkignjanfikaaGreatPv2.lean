/- Part. -/
import Derived.Test.YtdnkignjanfikaaGreatPv1
set_option linter.unusedVariables false
set_option linter.unusedSimpArgs false
namespace Go.AI.Fn
section
noncomputable def okP (p:Proof) (s:bj) (t:Setting):Bool:=
 sI s&&(setB t&&(h32 p.Root&&(Ex p.Gates s.Rows 4&&(mY p.VA&&(mY p.VB&&(mY p.VC&&(Ex p.Wires s.Cols 3&&(mY p.VW&&okO p.Open (s.Cols-1) t))))))))
theorem c1N {R:List (List Ext)} {size:Int} {X:Type} {x y:X} (n:R.length<=1048576) (i: ∀g∈R,g.length<=1048576) {step:Int->Option (Int⊕(Unit⊕(Int×Bool)))} {g:Int×Bool->Option X} (l: ∀e,g e=some y)
 (h: ∀t,step t=br (decide (t<(R.length:Int))) ((atL R t).bind fun x=>br ((x.length:Int) !=size) (some (.inr (.inl ()))) ((atL R t).bind fun m=>(lJ m).bind fun r=>br (!r) (some (.inr (.inl ()))) (some (.inl (IntKind.wrap .i64 (t+1)))))) (some (.inr (.inr (t,decide (t<(R.length:Int))))))):
 (Loop step 0).bind (alt (fun _=>some x) g)=some (if R.all (v7 size)=true then y else x):=by
 rw [<-Bs R [] (v7 size)]
 a j: ∀k,k<R.length->R.getD k []∈R:=fun k b=>by simp [b]
 refine BO R.length _ (fun _=>()) (fun k b f=> ?_) (fun k b f=> ?_) (e2:=((R.length:Int),false)) ?_ (fun _=>rfl) (l _)
 ·a:=i _ (j k b)
  simp only [v7,aD,aC] at f
  rw [h,brd om,pP (d:=[]) b,obs,fj f.1,obs,nS om,obs,f.2,aH,ba,ak _ om om];rfl
 ·a:=i _ (j k b)
  rw [h,brd om,pP (d:=[]) b,obs]
  by_cases c:((R.getD k []).length:Int)=size
  ·rw [v7,al c,aN] at f
   rw [fj c,obs,nS om,obs,f];rfl
  ·rw [brb c]
 ·rw [h,brn om,ag om]
theorem XC {p:Proof} {s:bj} {t:Setting} (h:SzP p) (d:s.A.length<=1048576) (e:s.B.length<=1048576) (f:s.C.length<=1048576):Ch p s t=some (okP p s t):=by
 a i:=h.2.1.1
 a j:=h.2.2.1.1
 unfold Ch okP
 rw [Ij om om om,obs]
 cases c:sI s
 ·rfl
 ·obtain ⟨k,l,_⟩:=m0 c
  rw [cL,yt,obs,zr,yX om (fun g b=>by a:=h.2.1.2 g b;omega),yX om (fun g b=>by a:=h.2.2.1.2 g b;omega),ak _ om om,PO h.2.2.2.sm,tf,tf,tf,tf]
  simp only [obs,aN,h32]
  cases setB t<;>cases decide (p.Root.length=32)<;>cases Ex p.Gates s.Rows 4<;>cases mY p.VA<;>cases mY p.VB<;>cases mY p.VC<;>cases Ex p.Wires s.Cols 3<;>cases mY p.VW<;>rfl
theorem Yr {p:Proof} {s:bj} {t:Setting} (h:SzP p):BP p s t=some (okP p s t):=by
 a b:=h.2.1.1
 a d:=h.2.2.1.1
 unfold BP okP Ex
 rw [IV,obs]
 cases f:sI s
 ·rfl
 ·obtain ⟨m,n,_⟩:=m0 f
  rw [aH,ba,xY,obs,nS (by simp),obs,ak (s.Cols-1) om om,Q0 h.2.2.2.sm]
  cases setB t
  ·rfl
  ·rw [aH,ba,aN,aN,h32]
   by_cases c1:p.Root.length=32
   ·rw [fj om,al c1,aN]
    by_cases c2:(p.Gates.length:Int)=s.Rows
    ·rw [fj c2,al c2,aN]
     by_cases c3:(p.Wires.length:Int)=s.Cols
     ·rw [fj c3,al c3,aN]
      simp only [obs]
      a i:=fun l c c2 c3 c4 c5 c6 c7 c8 c10 c11 c12 c13 c14 c15 c16 c17 c18 c19 c20 c21 c22 c23 c24 c25 c26=>c1N (R:=p.Wires) (size:=3) (x:=false) (y:=okO p.Open (s.Cols-1) t) (step:=uQ l c c2 c3 c4 c5 c6 c7 c8 p.Wires c10 c11 c12 c13 c14 c15 c16 c17 c18 c19 c20 c21 c22 c23 c24 c25 c26) (g:=fun _=>some (okO p.Open (s.Cols-1) t)) d h.2.2.1.2 (fun _=>rfl) (fun t=>rfl)
      a j:=fun l c c3 c4 c5 c6 c7 c8 c9 c10 c11 c12 c13 c14 c15 c16 c17 c18 c19 c20 c21 c22 c23 c24 c25 c26 g (k: ∀e,g e=_)=>c1N (R:=p.Gates) (size:=4) (x:=false) (y:=if p.Wires.all (v7 3)=true then okO p.Open (s.Cols-1) t else false) (step:=u4 l c p.Gates c3 c4 c5 c6 c7 c8 c9 c10 c11 c12 c13 c14 c15 c16 c17 c18 c19 c20 c21 c22 c23 c24 c25 c26) (g:=g) b h.2.1.2 k (fun t=>rfl)
      rw [j _ _ _ _ _ _ _ _ _ _ _ _ _ _ _ _ _ _ _ _ _ _ _ _ _ _ _ (fun e=>i _ _ _ _ _ _ _ _ _ _ _ _ _ _ _ _ _ _ _ _ _ _ _ _ _ _)]
      simp only [cj,ox,fy]
      cases mY p.VA<;>cases mY p.VB<;>cases mY p.VC<;>cases mY p.VW<;>cases p.Gates.all (v7 4)<;>cases p.Wires.all (v7 3)<;>rfl
     ·rw [brb c3,ag c3]
      cases p.Gates.all (v7 4)<;>cases mY p.VA<;>cases mY p.VB<;>cases mY p.VC<;>rfl
    ·rw [brb c2,ag c2];rfl
   ·rw [brb om,ag c1];rfl
end
section
theorem b4X {R T:List K} {β:K} {l t t2 t3 c4 c5 c6:List au} {c c2 c3 c7 c8 c11 c12 RR CC:Int} (a:OkM l RR CC) (b:(R.length:Int)=RR) (d:(T.length:Int)=CC):
 Loop (oI (kv R) t t2 t3 l (l.length:Int) c c2 c3 c4 c5 c6 c7 c8 β.1.A β.1.B c11 c12) (kv T,0)=some (kv (l.foldl (btS β R) T),(l.length:Int),false):=
 Tg (t:=t) (t2:=t2) (t3:=t3) (t4:=0) (c:=c) (c2:=c2) (c3:=c3) (c4:=c4) (c5:=c5) (c6:=c6) (c9:=0) (c10:=0) (c11:=0) (c12:=0) a b d
theorem b5i {R T:List K} {β:K} {l t t2 t3 c4 c5 c6:List au} {c c2 c3 c7 c8 c9 c10 RR CC:Int} (a:OkM l RR CC) (b:(R.length:Int)=RR) (d:(T.length:Int)=CC):
 Loop (oE (kv R) t t2 t3 l (l.length:Int) c c2 c3 c4 c5 c6 c7 c8 c9 c10 β.1.A β.1.B) (kv T,0)=some (kv (l.foldl (btS β R) T),(l.length:Int),false):=
 Tg (t:=t) (t2:=t2) (t3:=t3) (t4:=0) (c:=c) (c2:=c2) (c3:=c3) (c4:=c4) (c5:=c5) (c6:=c6) (c9:=0) (c10:=0) (c11:=0) (c12:=0) a b d
def btM (s:bj) (R:List K) (x y z:K):List K:=s.C.foldl (btS z R) (s.B.foldl (btS y R) (s.A.foldl (btS x R) (List.replicate (2^s.Cols.toNat) 0)))
theorem a7d (s:bj) (R:List K) (x y z:K):(btM s R x y z).length=2^s.Cols.toNat:=by rw [btM,pW,pW,pW,aS]
theorem a7P (n:Nat):kv (List.replicate n 0)=List.replicate n e0:=by rw [kv,List.map_replicate];rfl
theorem a0y {s:bj} (h:sI s=true):OkM s.A ((2^s.Rows.toNat:Nat):Int) ((2^s.Cols.toNat:Nat):Int)/\OkM s.B ((2^s.Rows.toNat:Nat):Int) ((2^s.Cols.toNat:Nat):Int)/\OkM s.C ((2^s.Rows.toNat:Nat):Int) ((2^s.Cols.toNat:Nat):Int)/\
 vO s.A ((2^s.Rows.toNat:Nat):Int) ((2^s.Cols.toNat:Nat):Int)=true/\vO s.B ((2^s.Rows.toNat:Nat):Int) ((2^s.Cols.toNat:Nat):Int)=true/\vO s.C ((2^s.Rows.toNat:Nat):Int) ((2^s.Cols.toNat:Nat):Int)=true:=by
 obtain ⟨d,e,_⟩:=m0 h
 a e1:s.Rows=(s.Rows.toNat:Int):=by omega
 a e2:s.Cols=(s.Cols.toNat:Int):=by omega
 a b:bC .i64 1 s.Rows=((2^s.Rows.toNat:Nat):Int):=by conv=>lhs;rw [e1];rw [D7 om]
 a c:bC .i64 1 s.Cols=((2^s.Cols.toNat:Nat):Int):=by conv=>lhs;rw [e2];rw [D7 om]
 unfold sI at h
 simp only [aD,aC,b,c] at h
 obtain ⟨_,_,_,mA,mB,mC⟩:=h
 exact ⟨Z8 mA,Z8 mB,Z8 mC,mA,mB,mC⟩
theorem Ol {s:bj} (h:sI s=true) {p R:List K} {x y z:K} (d:p.length=s.Rows.toNat) (c:eqT (kv p)=kv R):rZ s (kv p) (x.1,y.1,z.1)=some (kv (btM s R x y z)):=by
 obtain ⟨i,j,_⟩:=m0 h
 obtain ⟨mA,mB,mC,_⟩:=a0y h
 a e:=wg s.Cols.toNat om
 a b:(R.length:Int)=((2^s.Rows.toNat:Nat):Int):=by
   a:=CX (kv p)
   rw [c,cg,cg,d] at this;omega
 a e2:s.Cols=(s.Cols.toNat:Int):=by omega
 a f:bC .i64 1 s.Cols=((2^s.Cols.toNat:Nat):Int):=by conv=>lhs;rw [e2];rw [D7 om]
 unfold rZ fu
 rw [brd om,f,El om om om,CQ (EX p) (by rw [cg];omega),obs,c,obs]
 dsimp only
 rw [aK,show Ext.mk 0 0=e0 from rfl, <-a7P,Tg mA b (by rw [aS]),obs]
 dsimp only
 rw [b4X mB b (by rw [pW,aS]),obs]
 dsimp only
 rw [b5i mC b (by rw [pW,pW,aS]),obs];rfl
def Ja (l:List Int):List UInt8:=l.flatMap ic
theorem R7 (l:List Int):(Ja l).length=4*l.length:=by
 induction l with
 |nil=>rfl
 |cons x l ih=>simp only [Ja,cm,ab,dJ,ah] at*;omega
theorem VN (l:List Int) (x:Int):Ja (l++[x])=Ja l++ic x:=by simp [Ja]
def setT (t:Setting):List UInt8:=[UInt8.ofInt t.Rate,UInt8.ofInt t.Queries,UInt8.ofInt t.Grind]
def F0 (s:bj) (t:Setting) (p:List Int):List UInt8:=H (OO s)++setT t++Ja p
theorem c1k {l:List (List UInt8)} {l3 L:List UInt8} {p:List Int} {c c2 c3 c7 c8 c9:Int} {c4 c5 c6:List au} (f:p.length<=5000) (hL:L.length<=1000):Loop (iM l l3 p (p.length:Int) c c2 c3 c4 c5 c6 c7 c8 c9) (L,0)=some (L++Ja p,(p.length:Int),false):=by
 a key:=bu (step:=iM l l3 p (p.length:Int) c c2 c3 c4 c5 c6 c7 c8 c9) (fun j=>(L++Ja (p.take j),(j:Int))) p.length (e:=(L++Ja p,(p.length:Int),false)) (fun j b=> ?_) ?_
 ·simpa [Ja] using key
 ·simp only [iM]
  a d:=R7 (p.take j)
  rw [bc] at d
  rw [brd om,ck b,obs,qE (by simp only [ab];omega),obs,ak _ om om,db b,VN,aV];rfl
 ·simp only [iM]
  rw [brn om,ag om,bk]
theorem b01 {l L:List UInt8} {p:List Int} {c c2 c3 c7 c8 c9 c11 c13 c14 c16:Int} {c10:List Ext} {c12 c15:List UInt8} {c4 c5 c6:List au} (f:p.length<=5000) (hL:L.length<=1000):Loop (jE l p c c2 c3 c4 c5 c6 c7 c8 c9 c10 c11 c12 c13 c14 c15 c16) (L,0)=some (L++Ja p,(p.length:Int),false):=by
 a key:=bu (step:=jE l p c c2 c3 c4 c5 c6 c7 c8 c9 c10 c11 c12 c13 c14 c15 c16) (fun j=>(L++Ja (p.take j),(j:Int))) p.length (e:=(L++Ja p,(p.length:Int),false)) (fun j b=> ?_) ?_
 ·simpa [Ja] using key
 ·simp only [jE]
  a d:=R7 (p.take j)
  rw [bc] at d
  rw [brd om,ck b,obs,zI,obs,bt (by simp only [ab,dJ];omega),ak _ om om,db b,VN,aV];rfl
 ·simp only [jE]
  rw [brn om,ag om,bk]
theorem QD (s:bj) (t:Setting) (p:List Int):(F0 s t p).length=35+4*p.length:=by
 simp only [F0,ab,Ef,setT,ah,ai,R7]
end
section
noncomputable def stC (s:bj) (t:Setting) (p:List Int) (src:Source):Int:=
 if p.length>4096 then 2 else if sI s=false then 1 else if setB t=false then 1 else if p.all Gg=false then 1 else if Zg src=false then 1
 else if (p.length:Int)≠s.Publics then 17 else if 999800<mx src.At src.Count then 6 else 0
theorem RH {s:bj} {t:Setting} {p:List Int} {src:Source} (d:s.A.length<=1048576) (e:s.B.length<=1048576) (f:s.C.length<=1048576) (h:p.length<=1048576) (i:src.Script.length<=1048576):
 vU s t p src=some (stC s t p src):=by
 unfold vU stC
 by_cases c1:p.length>4096
 ·rw [brd om,ae c1]
 rw [brn om,aa c1,Ij om om om,obs]
 cases j:sI s
 ·rfl
 rw [aH,ba,aa (by simp),yt,obs]
 cases k:setB t
 ·rfl
 rw [aH,ba,aa (by simp),a8g om,obs]
 cases l:p.all Gg
 ·rfl
 rw [aH,ba,aa (by simp),UO om,obs]
 cases c:Zg src
 ·rfl
 a b:=S6.1 c
 a h0:0<=mx src.At src.Count:=by a:=b.4;a:=b.6;unfold mx;split<;>assumption
 a m:=c7H b.5 b.7
 rw [aH,ba,aa (by simp)]
 by_cases c6:(p.length:Int)=s.Publics
 ·rw [fj c6,aa (by simp [c6])]
  unfold uG
  rw [obs,ak _ om om]
  by_cases c7:999800<mx src.At src.Count
  ·rw [brd om,ae c7]
  ·rw [brn om,aa c7]
 ·rw [brb c6,ae c6]
theorem a1S {s:bj} {t:Setting} {p:List Int} {src:Source} (c:p.length<=1048576) (d:src.Script.length<=1048576):
 Gt s t p src=some (stC s t p src):=by
 unfold Gt stC
 by_cases c1:p.length>4096
 ·rw [brd om,ae c1]
 rw [brn om,aa c1,IV,obs]
 cases e:sI s
 ·rfl
 rw [aH,ba,aa (by simp),xY,obs]
 cases f:setB t
 ·rfl
 rw [aH,ba,aa (by simp),a1s om,obs]
 cases h:p.all Gg
 ·rfl
 rw [aH,ba,aa (by simp),Uq om,obs]
 cases b:Zg src
 ·rfl
 a i:=S6.1 b
 rw [aH,ba,aa (by simp)]
 by_cases c6:(p.length:Int)=s.Publics
 ·rw [fj c6,aa (by simp [c6])]
  unfold DE
  rw [ak _ om om]
  by_cases c7:999800<mx src.At src.Count
  ·rw [ae c7]
   by_cases c8:src.At>999800
   ·rw [brd om];rfl
   ·a:src.Count>999800:=by unfold mx at c7;split at c7<;>omega
    rw [brn om,al om];rfl
  ·rw [aa c7]
   a:src.At<=999800/\src.Count<=999800:=by unfold mx at c7;split at c7<;>omega
   rw [brn om,ag om];rfl
 ·rw [brb c6,ae c6]
structure P3 (s:bj) (t:Setting) (p:List Int) (src:Source):Prop where
 sy:sI s=true
 se:setB t=true
 pl:p.length<=4096
 pf:Kk p
 pe:(p.length:Int)=s.Publics
 fw:Few src 999800
theorem c4t {s:bj} {t:Setting} {p:List Int} {src:Source} (h:stC s t p src=0):P3 s t p src:=by
 unfold stC at h
 split at h
 ·cases h
 split at h
 ·cases h
 split at h
 ·cases h
 split at h
 ·cases h
 split at h
 ·cases h
 split at h
 ·cases h
 split at h
 ·cases h
 rename_i k c d e f i a
 b j:=S6.1 (by simpa using f)
 refine ⟨by simpa using c,by simpa using d,by omega,c8K.1 (by simpa using e),by simpa using i,j, ?_, ?_⟩<;>(unfold mx at a;split at a<;>omega)
theorem PB {s:bj} {t:Setting} {p:List Int} {src:Source} (h:P3 s t p src):vS s t p=some (F0 s t p):=by
 obtain ⟨_,_,_,b,c,d⟩:=m0 h.sy
 a e:=h.pl
 a f:=a28 s
 a i:=Ef (OO s)
 unfold vS
 rw [OY b c d,obs,vq (by simpa using by omega) (by simp),obs,show [OO s].flatten=OO s by simp,bt om,bt (by simp only [ab,ah,ai];omega),
  c1k om (by simp only [ab,ah,ai];omega),obs];rfl
theorem Ve {s:bj} {t:Setting} {p:List Int} {src:Source} (h:P3 s t p src):yh s t p src=some (tkM src (F0 s t p)):=by
 obtain ⟨_,_,_,b,c,d⟩:=m0 h.sy
 a e:=h.pl
 a f:=QD s t p
 a i:=Ef (OO s)
 unfold yh
 rw [Qt b c d,obs,bt (by simp only [ah,ai];omega),b01 om (by simp only [ab,ah,ai];omega),obs]
 dsimp only
 rw [show H (OO s)++[UInt8.ofInt t.Rate,UInt8.ofInt t.Queries,UInt8.ofInt t.Grind]++Ja p=F0 s t p from rfl,vx h.fw.1.3 om,obs]
theorem Mp {R T B:List K} {M:List (List au)} {k:Nat} {c7 c8 c9:Int} {c10 c11 c12:List au} {RR CC:Int} (m:k<M.length) (n:k<B.length) (f:OkM (M.getD k []) RR CC) (q:(R.length:Int)=RR) (r:(T.length:Int)=CC):
 Loop (fH M (kv B) (kv R) (k:Int) c7 c8 c9 c10 c11 c12) (kv T,0)=some (kv ((M.getD k []).foldl (btS (B.getD k 0) R) T),((M.getD k []).length:Int),false):=by
 a s:=f.len
 a b:M[(k:Int).toNat]? =some (M.getD k []):=by rw [aK];simp [m]
 generalize M.getD k []=l at*
 a key:=bu (step:=fH M (kv B) (kv R) (k:Int) c7 c8 c9 c10 c11 c12) (fun j=>(kv ((l.take j).foldl (btS (B.getD k 0) R) T),(j:Int))) l.length (e:=(kv (l.foldl (btS (B.getD k 0) R) T),(l.length:Int),false)) (fun j d=> ?_) ?_
 ·exact key
 ·simp only [fH]
  obtain ⟨o,h,_⟩:=f.ent _ (aZ d)
  a p:=b32 (f.ent _ (aZ d))
  a i:=pW (B.getD k 0) R (l.take j) T
  a c:atL (kv R) l[j].Row=some (R.getD l[j].Row.toNat 0).1:=by
    a:=wE (l:=R) (j:=l[j].Row.toNat) om
    rwa [eo o.1] at this
  rw [brd om,brd om,b,obs,brd om,brd om,brd om,obs,ck d,obs,brd h.1,brd (by rw [cg,i];omega),a7t om,obs,wE n,obs,Lr,obs,c,obs, <-DP p,
   fC (kF _).2 (aI _),obs,fC (aI _) (rv _ _),obs,lz (aI _) (rv _ _),obs,brd h.1,brd (by rw [cg,i];omega),obs,ak _ om om,db d,i5]
  show some (Sum.inl ((kv _).set l[j].Col.toNat ((List.foldl (btS (B.getD k 0) R) T (l.take j)).getD l[j].Col.toNat 0+B.getD k 0*(kF l[j].Value*R.getD l[j].Row.toNat 0)).1,_))=_
  rw [b68,show B.getD k 0*(kF l[j].Value*R.getD l[j].Row.toNat 0)=B.getD k 0*R.getD l[j].Row.toNat 0*kF l[j].Value by exact kg];rfl
 ·simp only [fH]
  rw [brd om,brd om,b,obs,brn om,ag om,bk]
theorem Up {s:bj} (h:sI s=true) {p R:List K} {x y z:K} (i:p.length=s.Rows.toNat) (c:eqT (kv p)=kv R):yj s (kv p) (kv [x,y,z])=some (kv (btM s R x y z)):=by
 obtain ⟨o,q,_⟩:=m0 h
 obtain ⟨mA,mB,mC,_⟩:=a0y h
 a l:=wg s.Cols.toNat om
 a b:(R.length:Int)=((2^s.Rows.toNat:Nat):Int):=by
   a:=CX (kv p)
   rw [c,cg,cg,i] at this;omega
 a e2:s.Cols=(s.Cols.toNat:Int):=by omega
 a m:bC .i64 1 s.Cols=((2^s.Cols.toNat:Nat):Int):=by conv=>lhs;rw [e2];rw [D7 om]
 a d:=Mp (M:=[s.A,s.B,s.C]) (B:=[x,y,z]) (k:=0) (T:=List.replicate (2^s.Cols.toNat) 0) (R:=R) (c7:=s.Rows) (c8:=s.Cols) (c9:=s.Publics) (c10:=s.A) (c11:=s.B) (c12:=s.C) (by simp) (by simp) mA b (by rw [aS])
 a f:=Mp (M:=[s.A,s.B,s.C]) (B:=[x,y,z]) (k:=1) (T:=s.A.foldl (btS x R) (List.replicate (2^s.Cols.toNat) 0)) (R:=R) (c7:=s.Rows) (c8:=s.Cols) (c9:=s.Publics) (c10:=s.A) (c11:=s.B) (c12:=s.C) (by simp) (by simp) mB b (by rw [pW,aS])
 a l2:=Mp (M:=[s.A,s.B,s.C]) (B:=[x,y,z]) (k:=2) (T:=s.B.foldl (btS y R) (s.A.foldl (btS x R) (List.replicate (2^s.Cols.toNat) 0))) (R:=R) (c7:=s.Rows) (c8:=s.Cols) (c9:=s.Publics) (c10:=s.A) (c11:=s.B) (c12:=s.C) (by simp) (by simp) mC b (by rw [pW,pW,aS])
 simp only [List.getD_cons_zero,List.getD_cons_succ] at d f l2
 unfold yj
 rw [ee _ om om,brd om,m,El om om om,L7 (EX p) (by rw [cg];omega),obs,c]
 rw [aK,show Ext.mk 0 0=e0 from rfl, <-a7P]
 a key:=bu (step:=li [s.A,s.B,s.C] (kv [x,y,z]) (kv R) s.Rows s.Cols s.Publics s.A s.B s.C) (fun j=>(kv (match j with
   |0=>List.replicate (2^s.Cols.toNat) 0
   |1=>s.A.foldl (btS x R) (List.replicate (2^s.Cols.toNat) 0)
   |2=>s.B.foldl (btS y R) (s.A.foldl (btS x R) (List.replicate (2^s.Cols.toNat) 0))
   |_=>btM s R x y z),(j:Int))) 3 (e:=(kv (btM s R x y z),3,false)) (fun j n=> ?_) (by rfl)
 ·a key':Loop (li [s.A,s.B,s.C] (kv [x,y,z]) (kv R) s.Rows s.Cols s.Publics s.A s.B s.C) (kv (List.replicate (2^s.Cols.toNat) 0),0)=_:=key
  rw [key',obs]
 ·simp only [li]
  rw [brd om]
  match j,n with
  |0,_=>
   show (Loop (fH [s.A,s.B,s.C] (kv [x,y,z]) (kv R) ((0:Nat):Int) s.Rows s.Cols s.Publics s.A s.B s.C) (kv (List.replicate (2^s.Cols.toNat) 0),0)).bind _=_
   rw [d,obs];rfl
  |1,_=>
   show (Loop (fH [s.A,s.B,s.C] (kv [x,y,z]) (kv R) ((1:Nat):Int) s.Rows s.Cols s.Publics s.A s.B s.C) (kv (s.A.foldl (btS x R) (List.replicate (2^s.Cols.toNat) 0)),0)).bind _=_
   rw [f,obs];rfl
  |2,_=>
   show (Loop (fH [s.A,s.B,s.C] (kv [x,y,z]) (kv R) ((2:Nat):Int) s.Rows s.Cols s.Publics s.A s.B s.C) (kv (s.B.foldl (btS y R) (s.A.foldl (btS x R) (List.replicate (2^s.Cols.toNat) 0))),0)).bind _=_
   rw [l2,obs];rfl
theorem Zu (x y z:K):BD x.1 y.1 z.1=some (x+z*(y-x)).1:=by
 unfold BD
 rw [qY y.2 x.2,obs,fQ z.2 (yl _ _),obs,kW x.2 (rv _ _),obs];rfl
theorem c8a {L:List Ext} (h:gX L) (d:L.length=3): ∃a b c:K,L=kv [a,b,c]:=by
 obtain ⟨l,rfl⟩:=b8n h
 rw [cg] at d
 match l,d with
 |[a,b,c],_=>exact ⟨a,b,c,rfl⟩
noncomputable def b2Y (s:bj) (p:List Int) (P:List K):K:=toK (b75 s p (kv P))
theorem a34 (s:bj) (p:List Int) (P:List K):(b2Y s p P).1=b75 s p (kv P):=mi (c1D _ _)
noncomputable def vx1 (s:bj) (t:Setting) (p:List Int) (root:List UInt8) (src:Source):Source:=tkM (tkM src (F0 s t p)) root
noncomputable def vg1 (s:bj) (t:Setting) (p:List Int) (root:List UInt8) (G:List (List K)) (src:Source):Int×List K×K×Source:=vfM 2 bv0 G 0 0 (drS (vx1 s t p root src) s.Rows.toNat)
noncomputable def vx3 (s:bj) (t:Setting) (p:List Int) (root:List UInt8) (G:List (List K)) (va vb vc:K) (src:Source):Source:=rsM (vg1 s t p root G src).2.2.2 [va,vb,vc]
noncomputable def vr (x:Source) (j:Nat):K:=toK ((drL x 3).getD j e0)
noncomputable def vg2 (s:bj) (t:Setting) (p:List Int) (root:List UInt8) (G W:List (List K)) (va vb vc:K) (src:Source):Int×List K×K×Source:=
 vfM 1 bv0 W 0 (vr (vx3 s t p root G va vb vc src) 0*va+(vr (vx3 s t p root G va vb vc src) 1*vb+vr (vx3 s t p root G va vb vc src) 2*vc)) (drS (vx3 s t p root G va vb vc src) 3)
noncomputable def a7h (s:bj) (p:List Int) (rx ry:List K) (r0 r1 r2 vw:K):K:=
 TT (btM s (eqK rx) r0 r1 r2) (eqK ry)*(b2Y s p (ry.take (s.Cols.toNat-1))+ry.getD (s.Cols.toNat-1) 0*(vw-b2Y s p (ry.take (s.Cols.toNat-1))))
theorem Wd (s:bj) (p:List Int) (rx ry:List K) (a b c vw:K):a7h s p rx ry a b c vw=TT (btM s (eqK rx) a b c) (eqK ry)*(b2Y s p (ry.take (s.Cols.toNat-1))+ry.getD (s.Cols.toNat-1) 0*(vw-b2Y s p (ry.take (s.Cols.toNat-1)))):=rfl
noncomputable def b8d (s:bj) (t:Setting) (p:List Int) (root:List UInt8) (G W:List (List K)) (va vb vc vw:K) (o:Opening) (src:Source):Int:=
 if (vg1 s t p root G src).1≠0 then (vg1 s t p root G src).1
 else if cmK 2 [eaK ((drL (vx1 s t p root src) s.Rows.toNat).map toK) (vg1 s t p root G src).2.1 1,va,vb,vc]≠(vg1 s t p root G src).2.2.1 then 11
 else if (vg2 s t p root G W va vb vc src).1≠0 then (vg2 s t p root G W va vb vc src).1
 else if a7h s p (vg1 s t p root G src).2.1 (vg2 s t p root G W va vb vc src).2.1 (vr (vx3 s t p root G va vb vc src) 0) (vr (vx3 s t p root G va vb vc src) 1) (vr (vx3 s t p root G va vb vc src) 2) vw≠(vg2 s t p root G W va vb vc src).2.2.1 then 11
 else chO (s.Cols.toNat-1) t.Rate.toNat t.Queries.toNat t.Grind.toNat root ((vg2 s t p root G W va vb vc src).2.1.take (s.Cols.toNat-1)) vw o (rsM (vg2 s t p root G W va vb vc src).2.2.2 [vw])
theorem a5y {L:List Ext} (h:gX L):kv (L.map toK)=L:=by
 rw [kv,jj]
 conv=>rhs;rw [<-List.map_id L]
 exact cC fun x a=>mi (h x a)
theorem c6S {x:Source} {k:Int} (h:Few x k) (f:k<=999890):drL x 3=kv [vr x 0,vr x 1,vr x 2]:=by
 d i:=SO h f (n:=3) om
 obtain ⟨a,b,c,e⟩:=c8a i (oo x 3)
 rw [vr,vr,vr,e]
 show [a.1,b.1,c.1]=[(toK a.1).1,(toK b.1).1,(toK c.1).1]
 rw [mi a.2,mi b.2,mi c.2]
end
section
structure YE (s:bj) (t:Setting) (root:List UInt8) (G W:List (List K)) (o:Opening):Prop where
 rt:root.length=32
 gl:G.length=s.Rows.toNat
 g4: ∀g∈G,g.length=4
 wl:W.length=s.Cols.toNat
 w3: ∀g∈W,g.length=3
 op:OkO o (s.Cols.toNat-1) t
variable {s:bj} {t:Setting} {p:List Int} {src:Source} {root:List UInt8} {G W:List (List K)} {va vb vc vw:K} {o:Opening}
theorem Xb (h:P3 s t p src):Few (vx1 s t p root src) 999802:=((h.fw.take _).take _).mono om
theorem Zz (h:P3 s t p src):Few (drS (vx1 s t p root src) s.Rows.toNat) 999807:=by
 obtain ⟨a,_⟩:=m0 h.sy
 exact (GV (Xb h) om _ om).mono om
theorem WC (h:P3 s t p src) (q:YE s t root G W o):Few (vg1 s t p root G src).2.2.2 999822:=by
 obtain ⟨b,_⟩:=m0 h.sy
 a:=q.gl
 exact (QU (kind:=2) b2B G 0 0 _ _ (Zz h) om).mono om
theorem XW (h:P3 s t p src) (q:YE s t root G W o):Few (vx3 s t p root G va vb vc src) 999823:=(Few.take (WC h q) _).mono om
theorem Zi (h:P3 s t p src) (q:YE s t root G W o):Few (drS (vx3 s t p root G va vb vc src) 3) 999826:=(GV (XW h q) om 3 om).mono om
theorem a6I (h:P3 s t p src) (q:YE s t root G W o):Few (vg2 s t p root G W va vb vc src).2.2.2 999841:=by
 obtain ⟨_,b,_⟩:=m0 h.sy
 a:=q.wl
 exact (QU (kind:=1) b2B W 0 _ _ _ (Zi h q) om).mono om
theorem a6K (q:YE s t root G W o) (z:(vg1 s t p root G src).1=0):(vg1 s t p root G src).2.1.length=s.Rows.toNat:=(QL (kind:=2) (bv:=bv0) G 0 0 _ z).trans q.gl
theorem a7N (q:YE s t root G W o) (z:(vg2 s t p root G W va vb vc src).1=0):(vg2 s t p root G W va vb vc src).2.1.length=s.Cols.toNat:=(QL (kind:=1) (bv:=bv0) W 0 _ _ z).trans q.wl
theorem b2f (a b c x y z:K):TT [a,b,c] [x,y,z]=a*x+(b*y+c*z):=by simp only [TT];exact kg
theorem a1i (h:P3 s t p src) (q:YE s t root G W o):
 ∃src',jZ s t p ⟨root,kvv G,va.1,vb.1,vc.1,kvv W,vw.1,o⟩ src=some (b8d s t p root G W va vb vc vw o src,src'):=by
 obtain ⟨hr,hc,hpb,_⟩:=m0 h.sy
 obtain ⟨_,hpub⟩:=a7i h.sy
 d hpl:=h.pl
 d hpe:=h.pe
 d hst:=QD s t p
 d hrt:=q.rt
 d f1:=Xb (root:=root) h
 d f2:=Zz (root:=root) h
 d f3:=XW (va:=va) (vb:=vb) (vc:=vc) h q
 d f4:=Zi (va:=va) (vb:=vb) (vc:=vc) h q
 d f5:=a6I (va:=va) (vb:=vb) (vc:=vc) h q
 d bT:=wV h.se
 d eR:(s.Rows.toNat:Int)=s.Rows:=by omega
 d i:=Js f1 om (n:=s.Rows.toNat) om
 rw [eR] at i
 d k:cO 2 (Ext.mk 0 0) (kvv G) (drS (vx1 s t p root src) s.Rows.toNat)=_:=FK (kind:=2) (.inr rfl) (R:=G) (c:=0) f2 (by d:=q.gl;omega)
 rw [show vfM 2 bv0 G 0 0 (drS (vx1 s t p root src) s.Rows.toNat)=vg1 s t p root G src from rfl] at k
 unfold jZ
 dsimp only
 rw [PB h,obs,vj h.fw.1.3 om,obs,bt om,vj (h.fw.take _).1.3 om,obs]
 rw [show tkM (tkM src (F0 s t p)) root=vx1 s t p root src from rfl,i,obs]
 dsimp only
 rw [k,obs]
 unfold b8d
 by_cases e:(vg1 s t p root G src).1=0
 ·d m:=a6K q e
  rw [ae e,aa (gx e)]
  dsimp only
  d r:=SO f1 om (n:=s.Rows.toNat) om
  d hea:JZ (drL (vx1 s t p root src) s.Rows.toNat) (kv (vg1 s t p root G src).2.1)=some (eaK ((drL (vx1 s t p root src) s.Rows.toNat).map toK) (vg1 s t p root G src).2.1 1).1:=by
    d:=a6Y (A:=(drL (vx1 s t p root src) s.Rows.toNat).map toK) (B:=(vg1 s t p root G src).2.1) (by rw [aO,oo,m]) (by rw [aO,oo];omega)
    rwa [a5y r] at this
  d hcm: ∀x:K,xK 2 [x.1,va.1,vb.1,vc.1]=some (cmK 2 [x,va,vb,vc]).1:=fun x=>WW (kind:=2) (v:=[x,va,vb,vc]) (.inr rfl) rfl
  rw [fj rfl,hea,obs,hcm,obs,Hu]
  by_cases z2:cmK 2 [eaK ((drL (vx1 s t p root src) s.Rows.toNat).map toK) (vg1 s t p root G src).2.1 1,va,vb,vc]=(vg1 s t p root G src).2.2.1
  ·d u:=Js f3 om (n:=3) om
   rw [show ((3:Nat):Int)=3 from rfl,c6S f3 om] at u
   d hab:cZ [va.1,vb.1,vc.1] (vg1 s t p root G src).2.2.2=some (vx3 s t p root G va vb vc src):=T2 (g:=[va,vb,vc]) (WC h q).1 (by simp)
   d w: ∀a b c:K,KP (kv [a,b,c]) [va.1,vb.1,vc.1]=some (a*va+(b*vb+c*vc)).1:=fun a b c=>by
     d:=T3 (EX [a,b,c]) (EX [va,vb,vc]) (by simp [cg]) (by simp [cg])
     rw [a5g,b2f] at this
     exact this
   d hv2:cO 1 (vr (vx3 s t p root G va vb vc src) 0*va+(vr (vx3 s t p root G va vb vc src) 1*vb+vr (vx3 s t p root G va vb vc src) 2*vc)).1 (kvv W) (drS (vx3 s t p root G va vb vc src) 3)=_:=FK (kind:=1) (.inl rfl) (R:=W) f4 (by d:=q.wl;omega)
   rw [show vfM 1 bv0 W 0 (vr (vx3 s t p root G va vb vc src) 0*va+(vr (vx3 s t p root G va vb vc src) 1*vb+vr (vx3 s t p root G va vb vc src) 2*vc)) (drS (vx3 s t p root G va vb vc src) 3)=vg2 s t p root G W va vb vc src from rfl] at hv2
   rw [ae z2,aa (gx z2),hab,obs,u,obs]
   dsimp only
   rw [w,obs,hv2,obs]
   by_cases f:(vg2 s t p root G W va vb vc src).1=0
   ·d hl2:=a7N q f
    d htk:((vg2 s t p root G W va vb vc src).2.1.take (s.Cols.toNat-1)).length=s.Cols.toNat-1:=by rw [bc];omega
    d hat:=wE (l:=(vg2 s t p root G W va vb vc src).2.1) (j:=s.Cols.toNat-1) om
    rw [show ((s.Cols.toNat-1:Nat):Int)=s.Cols-1 by omega] at hat
    rw [ae f,aa (gx f)]
    dsimp only
    d hbt:=Ol h.sy (p:=(vg1 s t p root G src).2.1) (R:=eqK (vg1 s t p root G src).2.1) (x:=vr (vx3 s t p root G va vb vc src) 0) (y:=vr (vx3 s t p root G va vb vc src) 1) (z:=vr (vx3 s t p root G va vb vc src) 2) m (SV _)
    d hbl:=a7d s (eqK (vg1 s t p root G src).2.1) (vr (vx3 s t p root G va vb vc src) 0) (vr (vx3 s t p root G va vb vc src) 1) (vr (vx3 s t p root G va vb vc src) 2)
    d hel:=b79 (vg2 s t p root G W va vb vc src).2.1
    d hpw:=wg s.Cols.toNat om
    rw [hl2] at hel
    d hdt:KP (kv (btM s (eqK (vg1 s t p root G src).2.1) (vr (vx3 s t p root G va vb vc src) 0) (vr (vx3 s t p root G va vb vc src) 1) (vr (vx3 s t p root G va vb vc src) 2))) (kv (eqK (vg2 s t p root G W va vb vc src).2.1))=some (TT (btM s (eqK (vg1 s t p root G src).2.1) (vr (vx3 s t p root G va vb vc src) 0) (vr (vx3 s t p root G va vb vc src) 1) (vr (vx3 s t p root G va vb vc src) 2)) (eqK (vg2 s t p root G W va vb vc src).2.1)).1:=by
      rw [T3 (EX _) (EX _) (by rw [cg,cg];omega) (by rw [cg];omega),a5g]
    rw [fj rfl,ak (s.Cols-1) om om,m3 om om (by rw [cg];omega),obs,hat,obs,brd (by simp [cg])]
    rw [show a64 (kv [vr (vx3 s t p root G va vb vc src) 0,vr (vx3 s t p root G va vb vc src) 1,vr (vx3 s t p root G va vb vc src) 2])=some ((vr (vx3 s t p root G va vb vc src) 0).1,(vr (vx3 s t p root G va vb vc src) 1).1,(vr (vx3 s t p root G va vb vc src) 2).1) from rfl,obs,hbt,obs,
     CQ (EX _) (by rw [cg];omega),obs,SV,hdt,obs,show (Int.toNat 0)=0 from rfl,fR,show (s.Cols-1).toNat-0=s.Cols.toNat-1 by omega,a73,
     UQ h.sy om h.pf (EX _) (by rw [cg];omega),obs, <-a34,Zu,obs,fQ (aI _) (aI _),obs, <-K.mul_val, <-Wd,Hu]
    by_cases z4:a7h s p (vg1 s t p root G src).2.1 (vg2 s t p root G W va vb vc src).2.1 (vr (vx3 s t p root G va vb vc src) 0) (vr (vx3 s t p root G va vb vc src) 1) (vr (vx3 s t p root G va vb vc src) 2) vw=(vg2 s t p root G W va vb vc src).2.2.1
    ·obtain ⟨src',hck,_⟩:=a5b (s:=rsM (vg2 s t p root G W va vb vc src).2.2.2 [vw]) (root:=root) (cl:=vw) (P:=(vg2 s t p root G W va vb vc src).2.1.take (s.Cols.toNat-1)) (nq:=t.Queries.toNat) (ρ:=t.Rate.toNat) (bits:=t.Grind.toNat) q.op htk om om om ((Few.take f5 _).mono om:Few (rsM (vg2 s t p root G W va vb vc src).2.2.2 [vw]) 999842) om
     d hab2:cZ [vw.1] (vg2 s t p root G W va vb vc src).2.2.2=some (rsM (vg2 s t p root G W va vb vc src).2.2.2 [vw]):=T2 (g:=[vw]) f5.1 (by simp)
     rw [ae z4,aa (gx z4),hab2,obs,hck,obs]
     exact ⟨_,rfl⟩
    ·rw [aa z4,ae z4]
     exact ⟨_,rfl⟩
   ·rw [aa f,ae f]
    dsimp only
    rw [brb f]
    exact ⟨_,rfl⟩
  ·rw [aa z2,ae z2]
   exact ⟨_,rfl⟩
 ·rw [aa e,ae e]
  dsimp only
  rw [brb e]
  exact ⟨_,rfl⟩
theorem c5V (D a b z:K):D*((1-z)*a+z*b)=D*(a+z*(b-a)):=by exact kg
theorem Qg (h:P3 s t p src) (q:YE s t root G W o):
 rC s t p ⟨root,kvv G,va.1,vb.1,vc.1,kvv W,vw.1,o⟩ src=some (b8d s t p root G W va vb vc vw o src):=by
 obtain ⟨hr,hc,hpb,_⟩:=m0 h.sy
 obtain ⟨_,hpub⟩:=a7i h.sy
 d hpl:=h.pl
 d hpe:=h.pe
 d hrt:=q.rt
 d f1:=Xb (root:=root) h
 d f2:=Zz (root:=root) h
 d f3:=XW (va:=va) (vb:=vb) (vc:=vc) h q
 d f4:=Zi (va:=va) (vb:=vb) (vc:=vc) h q
 d f5:=a6I (va:=va) (vb:=vb) (vc:=vc) h q
 d bT:=wV h.se
 d eR:(s.Rows.toNat:Int)=s.Rows:=by omega
 d k:=Mv f1 om (n:=s.Rows.toNat) om
 rw [eR] at k
 d m:lX 2 (Ext.mk 0 0) (kvv G) (G.length:Int) (drS (vx1 s t p root src) s.Rows.toNat)=_:=NA (kind:=2) (.inr rfl) (R:=G) (c:=0) f2 (by d:=q.gl;omega)
 rw [show vfM 2 bv0 G 0 0 (drS (vx1 s t p root src) s.Rows.toNat)=vg1 s t p root G src from rfl,q.gl,eR] at m
 unfold rC
 dsimp only
 rw [Ve h,obs,vx (h.fw.take _).1.3 om,obs]
 rw [show tkM (tkM src (F0 s t p)) root=vx1 s t p root src from rfl,k,obs]
 dsimp only
 rw [m,obs]
 unfold b8d
 by_cases e:(vg1 s t p root G src).1=0
 ·d r:=a6K q e
  rw [ae e,aa (gx e)]
  dsimp only
  d u:=SO f1 om (n:=s.Rows.toNat) om
  d hea:th (drL (vx1 s t p root src) s.Rows.toNat) (kv (vg1 s t p root G src).2.1)=some (eaK ((drL (vx1 s t p root src) s.Rows.toNat).map toK) (vg1 s t p root G src).2.1 1).1:=by
    d:=a78 (A:=(drL (vx1 s t p root src) s.Rows.toNat).map toK) (B:=(vg1 s t p root G src).2.1) (by rw [aO,oo,r]) (by rw [aO,oo];omega)
    rwa [a5y u] at this
  d hcm: ∀x:K,oU 2 [x.1,va.1,vb.1,vc.1]=some (cmK 2 [x,va,vb,vc]).1:=fun x=>YM (kind:=2) (v:=[x,va,vb,vc]) (.inr rfl) rfl
  rw [fj rfl,hea,obs,hcm,obs,Hu]
  by_cases z2:cmK 2 [eaK ((drL (vx1 s t p root src) s.Rows.toNat).map toK) (vg1 s t p root G src).2.1 1,va,vb,vc]=(vg1 s t p root G src).2.2.1
  ·d w:=Mv f3 om (n:=3) om
   rw [show ((3:Nat):Int)=3 from rfl,c6S f3 om] at w
   d hab:kZ (vg1 s t p root G src).2.2.2 [va.1,vb.1,vc.1]=some (vx3 s t p root G va vb vc src):=Rw (g:=[va,vb,vc]) (WC h q).1 (by simp)
   d hv2:lX 1 (vr (vx3 s t p root G va vb vc src) 0*va+(vr (vx3 s t p root G va vb vc src) 1*vb+vr (vx3 s t p root G va vb vc src) 2*vc)).1 (kvv W) (W.length:Int) (drS (vx3 s t p root G va vb vc src) 3)=_:=NA (kind:=1) (.inl rfl) (R:=W) f4 (by d:=q.wl;omega)
   rw [show vfM 1 bv0 W 0 (vr (vx3 s t p root G va vb vc src) 0*va+(vr (vx3 s t p root G va vb vc src) 1*vb+vr (vx3 s t p root G va vb vc src) 2*vc)) (drS (vx3 s t p root G va vb vc src) 3)=vg2 s t p root G W va vb vc src from rfl,q.wl,show (s.Cols.toNat:Int)=s.Cols by omega] at hv2
   d k0: ∀a b c:K,atL (kv [a,b,c]) 0=some a.1:=fun _ _ _=>rfl
   d k1: ∀a b c:K,atL (kv [a,b,c]) 1=some b.1:=fun _ _ _=>rfl
   d k2: ∀a b c:K,atL (kv [a,b,c]) 2=some c.1:=fun _ _ _=>rfl
   d f: ∀a b:K,dz a.1 b.1=some (a*b).1:=fun a b=>fC a.2 b.2
   d ha: ∀a b:K,iX a.1 b.1=some (a+b).1:=fun a b=>lz a.2 b.2
   rw [ae z2,aa (gx z2),hab,obs,w,obs]
   dsimp only
   rw [k0,obs,f,obs,k1,obs,f,obs,k2,obs,f,obs,ha,obs,ha,obs,hv2,obs]
   by_cases i:(vg2 s t p root G W va vb vc src).1=0
   ·d hl2:=a7N q i
    d htk:((vg2 s t p root G W va vb vc src).2.1.take (s.Cols.toNat-1)).length=s.Cols.toNat-1:=by rw [bc];omega
    d hat:=wE (l:=(vg2 s t p root G W va vb vc src).2.1) (j:=s.Cols.toNat-1) om
    rw [show ((s.Cols.toNat-1:Nat):Int)=s.Cols-1 by omega] at hat
    rw [ae i,aa (gx i)]
    dsimp only
    d hbt:=Up h.sy (p:=(vg1 s t p root G src).2.1) (R:=eqK (vg1 s t p root G src).2.1) (x:=vr (vx3 s t p root G va vb vc src) 0) (y:=vr (vx3 s t p root G va vb vc src) 1) (z:=vr (vx3 s t p root G va vb vc src) 2) r (SV _)
    d hbl:=a7d s (eqK (vg1 s t p root G src).2.1) (vr (vx3 s t p root G va vb vc src) 0) (vr (vx3 s t p root G va vb vc src) 1) (vr (vx3 s t p root G va vb vc src) 2)
    d hpw:=wg s.Cols.toNat om
    d hdt:D6 (kv (btM s (eqK (vg1 s t p root G src).2.1) (vr (vx3 s t p root G va vb vc src) 0) (vr (vx3 s t p root G va vb vc src) 1) (vr (vx3 s t p root G va vb vc src) 2))) (kv (vg2 s t p root G W va vb vc src).2.1)=some (TT (btM s (eqK (vg1 s t p root G src).2.1) (vr (vx3 s t p root G va vb vc src) 0) (vr (vx3 s t p root G va vb vc src) 1) (vr (vx3 s t p root G va vb vc src) 2)) (eqK (vg2 s t p root G W va vb vc src).2.1)).1:=by
      rw [a7w (EX _) (EX _) (by rw [cg];omega) (by rw [cg,cg,hl2];omega),SV,a5g]
    d hls: ∀a:K,oR a.1=some (1-a).1:=fun a=>GU a.2
    rw [fj rfl,ak (s.Cols-1) om om,m3 om om (by rw [cg];omega),obs,hat,obs,hls,obs,show (Int.toNat 0)=0 from rfl,fR,show (s.Cols-1).toNat-0=s.Cols.toNat-1 by omega,a73,
     a1u h.sy om h.pf (EX _) (by rw [cg];omega),obs, <-a34,f,obs,f,obs,ha,obs,hbt,obs,hdt,obs,f,obs,c5V, <-Wd,Hu]
    by_cases z4:a7h s p (vg1 s t p root G src).2.1 (vg2 s t p root G W va vb vc src).2.1 (vr (vx3 s t p root G va vb vc src) 0) (vr (vx3 s t p root G va vb vc src) 1) (vr (vx3 s t p root G va vb vc src) 2) vw=(vg2 s t p root G W va vb vc src).2.2.1
    ·obtain ⟨src',hck,_⟩:=a48 (s:=rsM (vg2 s t p root G W va vb vc src).2.2.2 [vw]) (root:=root) (cl:=vw) (P:=(vg2 s t p root G W va vb vc src).2.1.take (s.Cols.toNat-1)) (nq:=t.Queries.toNat) (ρ:=t.Rate.toNat) (bits:=t.Grind.toNat) q.op htk om om om ((Few.take f5 _).mono om:Few (rsM (vg2 s t p root G W va vb vc src).2.2.2 [vw]) 999842) om
     rw [show ((s.Cols.toNat-1:Nat):Int)=s.Cols-1 by omega] at hck
     d hab2:kZ (vg2 s t p root G W va vb vc src).2.2.2 [vw.1]=some (rsM (vg2 s t p root G W va vb vc src).2.2.2 [vw]):=Rw (g:=[vw]) f5.1 (by simp)
     rw [ae z4,aa (gx z4),hab2,obs,hck,obs]
    ·rw [aa z4,ae z4]
   ·rw [aa i,ae i]
    dsimp only
    rw [brb i]
  ·rw [aa z2,ae z2]
 ·rw [aa e,ae e]
  dsimp only
  rw [brb e]
end
section
def Ci (op:Int):Int:=if 4<=op/\op<=7 then 2 else if op=8 then 1 else 0
theorem a9c (op:Int):Bw op=some (Ci op):=by
 unfold Bw Ci
 rw [Wk,obs]
 by_cases a:4<=op/\op<=7
 ·rw [al a,ae a];rfl
 ·rw [ag a,aa a,ba]
  by_cases b:op=8
  ·rw [bre b,ae b]
  ·rw [kL b,aa b]
def fU (l:List Gate) (op:Int):Nat:=l.countP fun g=>g.Op==op
theorem xT (l:List Gate) (x:Gate) (op:Int):fU (l++[x]) op=fU l op+(if (x.Op==op)=true then 1 else 0):=by
 simp only [fU,List.countP_append,List.countP_singleton]
theorem zB (l:List Gate) (op:Int):fU l op<=l.length:=oX
theorem b1J (b:Bool):KT b=some (if b=true then 1 else 0):=by cases b<;>rfl
theorem JM {c:Circuit} {op:Int} (h:c.Gates.length<=1048576):qN c op=some (fU c.Gates op:Int):=by
 unfold qN
 a key:=bu (step:=lx op c.Gates) (fun j=>((fU (c.Gates.take j) op:Int),(j:Int))) c.Gates.length (e:=((fU c.Gates op:Int),(c.Gates.length:Int),false)) (fun j d=> ?_) ?_
 ·rw [show ((0:Int),(0:Int))=((fU (c.Gates.take 0) op:Int),((0:Nat):Int)) from rfl,key];rfl
 ·a b:=zB (c.Gates.take j) op
  rw [bc] at b
  simp only [lx]
  rw [brd om,ck d,obs,b1J,obs,db d,xT]
  cases f:(c.Gates[j].Op==op)
  ·rw [aa (by simp),aa (by simp),ak _ om om,ak _ om om];simp
  ·rw [ae rfl,ae rfl,ak _ om om,ak _ om om];simp
 ·simp only [lx]
  rw [brn om,ag om,bk]
def rR (g:Gate) (k:Int):Bool:=
 decide (1<=g.Op/\g.Op<=8)&&(br (decide (Ci g.Op>0)) (decide (0<=g.A/\g.A<=k-1)) (g.A==0)&&(br (decide (Ci g.Op>1)) (decide (0<=g.B/\g.B<=k-1)) (g.B==0)&&br (g.Op==3) (Gg g.K) (g.K==0)))
theorem VQ {g:Gate} {k:Int} (h0:0<=k) (f:k<=1048576):C8 g k=some (rR g k):=by
 c d:Ci g.Op=0\/Ci g.Op=1\/Ci g.Op=2:=by
   unfold Ci
   split
   ·simp
   ·split<;>simp
 unfold C8 rR
 simp only [Wk,xc,a9c,obs,bne]
 rw [ak (k-1) om om]
 generalize Ci g.Op=u at d ⊢
 generalize decide (0<=g.A/\g.A<=k-1)=a
 generalize decide (0<=g.B/\g.B<=k-1)=b
 generalize decide (1<=g.Op/\g.Op<=8)=o
 generalize (g.A==0)=za
 generalize (g.B==0)=zb
 generalize (g.Op==3)=e
 generalize (g.K==0)=zk
 rcases d with rfl|rfl|rfl<;>cases o<;>cases a<;>cases b<;>cases za<;>cases zb<;>cases e<;>rfl
def BI (l:List Gate):Bool:=decide (1<=l.length/\l.length<=15)&&((List.range l.length).all (fun k=>((l[k]?.map fun g=>rR g (k:Int)).getD false))&&decide ((fU l 2:Int)<=7))
structure OkC (l:List Gate):Prop where
 n1:1<=l.length
 n2:l.length<=15
 g: ∀(k:Nat) (h:k<l.length),rR l[k] (k:Int)=true
 p:fU l 2<=7
theorem b5x {l:List Gate} (h:BI l=true):OkC l:=by
 simp only [BI,aD,aC,aB,bU] at h
 obtain ⟨⟨b,c⟩,d,e⟩:=h
 exact ⟨b,c,fun k a=>by simpa [a] using d k a,by omega⟩
theorem Fe {c:Circuit} (h:c.Gates.length<=1048576):uV c=some (BI c.Gates):=by
 unfold uV BI
 rw [Wk,obs]
 by_cases m:1<=c.Gates.length/\c.Gates.length<=15
 ·rw [al om,al m,aH,ba,aN]
  a key:=Cm (step:=fN c.Gates) (fun k=>(k:Int)) c.Gates.length (fun k=>((c.Gates[k]?.map fun g=>rR g (k:Int)).getD false)) (fun k=> .inl ()) (e:= .inr ((c.Gates.length:Int),false)) (fun k b d=>by
   a f:rR c.Gates[k] (k:Int)=true:=by simpa [b] using d
   simp only [fN]
   rw [brd om,ck b,obs,VQ om om,obs,f,aH,ba,ak _ om om];rfl)
    (fun k b d=>by
     a f:rR c.Gates[k] (k:Int)=false:=by simpa [b] using d
     simp only [fN]
     rw [brd om,ck b,obs,VQ om om,obs,f,du,cL])
    (by simp only [fN];rw [brn om,ag om])
  rcases key with ⟨i,j⟩|⟨k,b,i,_,j⟩
  ·a e:Loop (fN c.Gates) 0=some (.inr ((c.Gates.length:Int),false)):=j
   a l:(List.range c.Gates.length).all (fun k=>((c.Gates[k]?.map fun g=>rR g (k:Int)).getD false))=true:=aB.2 fun k b=>i k (bU.1 b)
   rw [e,l,obs,nu,JM h,obs,aN]
  ·a e:Loop (fN c.Gates) 0=some (.inl ()):=j
   a l:(List.range c.Gates.length).all (fun k=>((c.Gates[k]?.map fun g=>rR g (k:Int)).getD false))=false:=sL.2 ⟨k,bU.2 b,by rw [i];simp⟩
   rw [e,l,obs,kQ,jA]
 ·rw [ag om,ag m,du,cL,jA]
def gvM (P I out:List Int) (p i:Nat) (g:Gate):Int:=
 if g.Op=1 then I.getD i 0 else if g.Op=2 then P.getD p 0 else if g.Op=3 then g.K else if g.Op=4 then aF (out.getD g.A.toNat 0) (out.getD g.B.toNat 0)
 else if g.Op=5 then sF (out.getD g.A.toNat 0) (out.getD g.B.toNat 0) else if g.Op=6 then mF (out.getD g.A.toNat 0) (out.getD g.B.toNat 0) else out.getD g.A.toNat 0
def rnM (P I:List Int) (l:List Gate):Nat->List Int
 |0=>[]
 |j+1=>rnM P I l j++[gvM P I (rnM P I l j) (fU (l.take j) 2) (fU (l.take j) 1) (l.getD j ⟨0,0,0,0⟩)]
theorem ZG {g:Gate} {k:Int} (h:rR g k=true):(1<=g.Op/\g.Op<=8)/\(4<=g.Op->0<=g.A/\g.A<=k-1)/\(4<=g.Op->g.Op<=7->0<=g.B/\g.B<=k-1)/\(g.Op=3->okF g.K):=by
 simp only [rR,aD,aC] at h
 obtain ⟨d,a,b,c⟩:=h
 refine ⟨d,fun h=> ?_,fun h e=> ?_,fun h=> ?_⟩
 ·rw [brd (by
   unfold Ci
   split
   ·omega
   ·split<;>omega)] at a
  exact jJ a
 ·rw [brd (by unfold Ci;rw [ae ⟨h,e⟩];omega)] at b
  exact jJ b
 ·rw [bre h] at c
  exact K6.1 c
theorem ZL {l:List Gate} {j:Nat} {op:Int} (b:j<l.length) (h:l[j].Op=op):fU (l.take j) op<fU l op:=by
 a c:fU (l.take (j+1)) op<=fU l op:=List.Sublist.countP_le (List.take_sublist _ _)
 rw [db b,xT,ae (by simp [h])] at c
 omega
theorem KG {l:List Int} {k:Nat} (h:k<l.length):atL l (k:Int)=some (l.getD k 0):=by rw [ck h];simp [h]
theorem b8N {l:List Int} {k:Nat} (h:k<l.length):l[k]? =some (l.getD k 0):=by simp [h]
def c8r (v:List Int) (g:Gate):Bool:=br (g.Op==7) (v.getD g.A.toNat 0==v.getD g.B.toNat 0) true&&br (g.Op==8) (decide (v.getD g.A.toNat 0<=1)) true
theorem b5H {l:List Int} {i:Int} (h0:0<=i) (b:i.toNat<l.length):atL l i=some (l.getD i.toNat 0):=by
 a:i=(i.toNat:Int):=by omega
 conv=>lhs;rw [this]
 exact KG b
end
section
theorem JA {k:Nat} (h:k<=9223372036854775807):IntKind.wrap .u64 (k:Int)=(k:Int):=by
 simp only [IntKind.wrap,IntKind.bits,IntKind.signed]
 simp
 omega
def lgM (m:Int):Nat:=if m<=2 then 2 else if m<=4 then 3 else if m<=8 then 4 else 5
theorem Pq {p w:Int} {l:List Gate} {k:Nat} (c:k<=50) (d:0<=p) (b:p<=100):
 oQ p w l ((k+1:Nat):Int)=if ((2^k:Nat):Int)<mx (p+1) w then some (.inl ((k+2:Nat):Int)) else some (.inr (((k+1:Nat):Int),false)):=by
 a e:IntKind.wrap .i64 (((k+1:Nat):Int)-1)=(k:Int):=by rw [ak _ om om];omega
 a e2:IntKind.wrap .i64 (((k+1:Nat):Int)+1)=((k+2:Nat):Int):=by rw [ak _ om om];omega
 simp only [oQ]
 rw [e,e2,JA om,brd om,D7 om,ak _ om om]
 by_cases h:((2^k:Nat):Int)<mx (p+1) w
 ·rw [brd h,ae h]
 ·rw [brn h,aa h,ag h]
theorem b8z {p w:Int} {l:List Gate} (e:0<=p) (n:p<=7) (o:w<=15):Loop (oQ p w l) 2=some ((lgM (mx (p+1) w):Int),false):=by
 a q:mx (p+1) w<=15:=by unfold mx;split<;>omega
 a b:=Pq (p:=p) (w:=w) (l:=l) (k:=1) om e om
 a c:=Pq (p:=p) (w:=w) (l:=l) (k:=2) om e om
 a d:=Pq (p:=p) (w:=w) (l:=l) (k:=3) om e om
 a f:=Pq (p:=p) (w:=w) (l:=l) (k:=4) om e om
 simp only [Nat.reducePow,Nat.reduceAdd] at b c d f
 unfold lgM
 generalize mx (p+1) w=m at*
 by_cases h:m<=2
 ·rw [ae h];rw [aa om] at b;exact bX b
 rw [aa h];rw [ae om] at b
 refine (cf b).trans ?_
 by_cases i:m<=4
 ·rw [ae i];rw [aa om] at c;exact bX c
 rw [aa i];rw [ae om] at c
 refine (cf c).trans ?_
 by_cases j:m<=8
 ·rw [ae j];rw [aa om] at d;exact bX d
 rw [aa j];rw [ae om] at d
 refine (cf d).trans ?_
 rw [aa om] at f;exact bX f
def lgC (l:List Gate):Nat:=lgM (mx ((fU l 2:Int)+1) ((l.length:Int)-(fU l 2:Int)))
theorem a1K {c:Circuit} (ok:OkC c.Gates):Gs c=some (lgC c.Gates:Int):=by
 a b:=ok.n2
 a d:=ok.p
 a e:=zB c.Gates 2
 unfold Gs
 rw [JM om,obs,ak _ om om,b8z om om om];rfl
theorem b5t (m:Int):2<=lgM m/\lgM m<=5:=by
 unfold lgM
 split
 ·omega
 ·split
  ·omega
  ·split<;>omega
theorem c00 {m:Int} (h:m<=15):m<=((2^(lgM m-1):Nat):Int):=by
 unfold lgM
 split
 ·simpa
 ·split
  ·simpa
  ·split
   ·simpa
   ·simp;omega
def a1x (l:List Gate) (j:Nat):Int:=if (l.getD j ⟨0,0,0,0⟩).Op=2 then (fU (l.take j) 2:Int)+1 else ((2^(lgC l-1):Nat):Int)+((j:Int)-(fU (l.take j) 2:Int))
def iz (l:List Gate) (n:Nat):List Int:=(List.range n).map (a1x l)
theorem GP (l:List Gate) (n:Nat):(iz l n).length=n:=by simp [iz]
theorem Sy (l:List Gate) (n:Nat):iz l (n+1)=iz l n++[a1x l n]:=by simp [iz,gB]
theorem X7 {c:Circuit} (ok:OkC c.Gates):BT c=some (iz c.Gates c.Gates.length,(lgC c.Gates:Int)):=by
 a n:=ok.n2
 a i:=b5t (mx ((fU c.Gates 2:Int)+1) ((c.Gates.length:Int)-(fU c.Gates 2:Int)))
 a k:2<=lgC c.Gates/\lgC c.Gates<=5:=i
 a e:IntKind.wrap .i64 ((lgC c.Gates:Int)-1)=((lgC c.Gates-1:Nat):Int):=by rw [ak _ om om];omega
 a l:=wg (lgC c.Gates-1) om
 unfold BT
 rw [a1K ok,obs,e,JA om,brd om,D7 om]
 a key:=bu (step:=mT (lgC c.Gates:Int) ((2^(lgC c.Gates-1):Nat):Int) c.Gates) (fun j=>(iz c.Gates j,(fU (c.Gates.take j) 2:Int),(j:Int)-(fU (c.Gates.take j) 2:Int),(j:Int))) c.Gates.length (e:=(iz c.Gates c.Gates.length,(fU c.Gates 2:Int),(c.Gates.length:Int)-(fU c.Gates 2:Int),(c.Gates.length:Int),false)) (fun j d=> ?_) ?_
 ·a:((iz c.Gates 0,(fU (c.Gates.take 0) 2:Int),((0:Nat):Int)-(fU (c.Gates.take 0) 2:Int),((0:Nat):Int)):List Int×Int×Int×Int)=([],0,0,0):=rfl
  rw [<-this,key];rfl
 ·a m:c.Gates.getD j ⟨0,0,0,0⟩=c.Gates[j]:=by simp [d]
  a l2:=zB (c.Gates.take j) 2
  rw [bc] at l2
  a f:=GP c.Gates j
  a b: ∀v:Int,(iz c.Gates j++[v]).length*8<=1099511627776:=fun v=>by rw [ab,f];simp;omega
  simp only [mT]
  rw [brd om,ck d,obs,db d,xT,Sy,a1x,m]
  by_cases h:c.Gates[j].Op=2
  ·rw [bre h,bt (b _),ak _ om om,ak _ om om,ae h,ae (by simp [h])]
   simp;omega
  ·rw [kL h,bt (b _),ak _ om om,ak _ om om,ak _ om om,aa h,aa (by simp [h])]
   simp;omega
 ·simp only [mT]
  rw [brn om,ag om,bk]
end
section
def enP (row col:Int) (e:au):Bool:=decide (e.Row=row)&&decide (e.Col>col)
def enR (row col v:Int):List au->List au
 |[]=>[⟨row,col,v⟩]
 |e::R=>if enP row col e=true then e::enR row col v R
  else if e.Row=row/\e.Col=col then (if aF e.Value v=0 then R else ⟨row,col,aF e.Value v⟩::R)
  else ⟨row,col,v⟩::e::R
def enM (L:List au) (row col v:Int):List au:=(enR row col v L.reverse).reverse
theorem a6T {row col v:Int} {R:List au}: ∀{T:List au},(∀e∈T,enP row col e=true)->enR row col v (T++R)=T++enR row col v R
 |[],_=>rfl
 |e::T,h=>by
  rw [eH,enR,ae (h e (by simp)),a6T fun x a=>h x (by simp [a])];rfl
theorem a2N (row col:Int) (L:List au): ∃A T,L=A++T/\(∀e∈T,enP row col e=true)/\(A=[]\/ ∃B e,A=B++[e]/\enP row col e=false):=by
 refine ⟨(L.reverse.dropWhile (enP row col)).reverse,(L.reverse.takeWhile (enP row col)).reverse, ?_, ?_, ?_⟩
 ·rw [<-g8,List.takeWhile_append_dropWhile,List.reverse_reverse]
 ·intro e a
  rw [List.mem_reverse] at a
  b: ∀(l:List au), ∀e∈l.takeWhile (enP row col),enP row col e=true:=by
   intro l
   induction l with
   |nil=>intro e a;cases a
   |cons x l ih=>
    intro e a
    rw [List.takeWhile_cons] at a
    split at a
    ·rename_i c
     rcases b9.1 a with rfl|a
     ·exact c
     ·exact ih e a
    ·cases a
  exact this _ e a
 ·b: ∀(l:List au),l.dropWhile (enP row col)=[]\/ ∃x r,l.dropWhile (enP row col)=x::r/\enP row col x=false:=by
   intro l
   induction l with
   |nil=>exact .inl rfl
   |cons x l ih=>
    rw [List.dropWhile_cons]
    split
    ·exact ih
    ·rename_i c;exact .inr ⟨x,l,rfl,by simpa using c⟩
  rcases this L.reverse with h|⟨x,r,h,c⟩
  ·exact .inl (by rw [h];rfl)
  ·exact .inr ⟨r.reverse,x,by rw [h,List.reverse_cons],c⟩
theorem LY {row col v:Int} {A T:List au} (h: ∀e∈T,enP row col e=true):enM (A++T) row col v=enM A row col v++T:=by
 unfold enM
 rw [g8,a6T (fun e a=>h e (by simpa using a)),g8,List.reverse_reverse]
theorem a0j {α:Type} {A B:List α} {n:Int} (h:n=A.length):l6 (A++B) 0 n=some A:=by
 subst h
 rw [m3 om om (by simp;omega)]
 simp
theorem Qd {α:Type} {A B:List α} {n m:Int} (h:n=A.length) (b:m=((A++B).length:Nat)):l6 (A++B) n m=some B:=by
 subst h;subst b
 rw [m3 om (by simp;omega) om]
 a:((A.length:Int)+(B.length:Int)).toNat-A.length=B.length:=by omega
 simp [this]
theorem c0D {row col v:Int} {A T:List au} (k: ∀e∈T,enP row col e=true) (l:A=[]\/ ∃B e,A=B++[e]/\enP row col e=false) (n:(A++T).length<=1000000):
 Loop (jy (A++T) row col v) (((A++T).length:Nat):Int)=some ((A.length:Int),false):=by
 a c:(A++T).length=A.length+T.length:=ab
 a key:=bu (step:=jy (A++T) row col v) (fun j=>(((A.length+T.length-j:Nat)):Int)) T.length (e:=((A.length:Int),false)) (fun j o=> ?_) ?_
 ·rw [c];simpa using key
 ·a hi:A.length+T.length-j-1<(A++T).length:=by omega
  a d:enP row col (A++T)[A.length+T.length-j-1]=true:=by
    rw [List.getElem_append_right om]
    exact k _ (aZ _)
  simp only [enP,aD,aC] at d
  a e:IntKind.wrap .i64 (((A.length+T.length-j:Nat):Int)-1)=((A.length+T.length-j-1:Nat):Int):=by rw [ak _ om om];omega
  simp only [jy]
  rw [brd om,e,ck hi,obs,bre d.1,obs,brd d.2]
  a m:A.length+T.length-j-1=A.length+T.length-(j+1):=by omega
  rw [m]
 ·simp only [jy]
  rw [show A.length+T.length-T.length=A.length by omega]
  rcases l with rfl|⟨B,x,rfl,b⟩
  ·rw [brn (by simp)]
  ·a e:IntKind.wrap .i64 (((B++[x]).length:Nat)-1:Int)=(B.length:Int):=by
     rw [ak _ om om];simp
   a f:atL (B++[x]++T) (B.length:Int)=some x:=by
     rw [ck (by simp)];simp
   rw [brd (by simp),e,f,obs]
   simp only [enP,hK,bw] at b
   by_cases h:x.Row=row
   ·a i: ¬x.Col>col:=by rcases b with b|b;exact absurd h b;exact b
    rw [bre h,obs,brn i,ag i]
   ·rw [kL h]
theorem Uo {L:List au} {row col v:Int} (c:L.length<=1000000) (o:okF v) (hL: ∀e∈L,okF e.Value):aG L row col v=some (enM L row col v):=by
 obtain ⟨A,T,rfl,k,l⟩:=a2N row col L
 a m:(A++T).length=A.length+T.length:=ab
 unfold aG
 rw [c0D k l c,obs,LY k]
 dsimp only
 a b: ∀M:List au,M.length<=2000000->M.length*24<=1099511627776:=fun M h=>by omega
 a ins:((l6 (A++T) 0 (A.length:Int)).bind fun y=>br (cP (([]++y:List au)).length 24) (br (cP (([]++y)++[au.mk row col v]).length 24) ((l6 (A++T) (A.length:Int) (((A++T).length:Nat):Int)).bind fun n=>br (cP ((([]++y)++[au.mk row col v])++n).length 24) (some ((([]++y)++[au.mk row col v])++n)) none) none) none)=some (A++[au.mk row col v]++T):=by
   rw [a0j rfl,obs,bg,bt (b _ om),bt (b _ (by simp;omega)),Qd rfl rfl,obs,bt (b _ (by simp;omega))]
 rcases l with rfl|⟨B,x,rfl,p⟩
 ·rw [brn (by simp),ins];rfl
 ·a e:IntKind.wrap .i64 (((B++[x]).length:Nat)-1:Int)=(B.length:Int):=by
    rw [ak _ om om];simp
  a j:atL (B++[x]++T) (B.length:Int)=some x:=by
    rw [ck (by simp)];simp
  rw [brd (by simp),e,j,obs]
  a q:enM (B++[x]) row col v=if x.Row=row/\x.Col=col then (if aF x.Value v=0 then B else B++[⟨row,col,aF x.Value v⟩]) else B++[x]++[⟨row,col,v⟩]:=by
    unfold enM
    rw [g8,nW,aU,enR,aa (by rw [p];simp)]
    split
    ·split<;>simp
    ·simp
  rw [q]
  by_cases d:x.Row=row
  ·rw [bre d,obs]
   by_cases f:x.Col=col
   ·a r:l6 (B++[x]++T) 0 (B.length:Int)=some B:=by rw [aV];exact a0j rfl
    rw [bre f,obs,Gk (hL x (by simp)) o,obs,r,obs,bg,bt (b _ (by simp at c;omega)),ae ⟨d,f⟩]
    by_cases i:aF x.Value v=0
    ·rw [fj i,ae i,Qd rfl rfl,obs,bt (b _ (by simp at c ⊢;omega))]
    ·rw [brb i,aa i,bt (b _ (by simp at c ⊢;omega)),Qd rfl rfl,obs,bt (b _ (by simp at c ⊢;omega))]
   ·rw [kL f,ins,aa (fun h=>f h.2)]
  ·rw [kL d,ins,aa (fun h=>d h.1)]
end
section
end
section
structure MkR (l:List au) (row C:Int):Prop where
 ent: ∀x∈l,0<=x.Row/\x.Row<=row/\0<=x.Col/\x.Col<=C-1/\1<=x.Value/\x.Value<=2130706432
 srt:l.Pairwise ltE
theorem MkR.nil (row C:Int):MkR [] row C:=⟨fun x a=>(by cases a),List.Pairwise.nil⟩
theorem MkR.up {l:List au} {row C r:Int} (h:MkR l row C) (e:row<=r):MkR l r C:=
 ⟨fun x d=>by obtain ⟨a,b,c⟩:=h.ent x d;exact ⟨a,by omega,c⟩,h.srt⟩
theorem MkR.okF {l:List au} {row C:Int} (h:MkR l row C): ∀e∈l,Fn.okF e.Value:=fun e c=>by
 obtain ⟨_,_,_,_,a,b⟩:=h.ent e c
 exact ⟨by omega,by omega⟩
theorem ZU {A T:List au} {n:au} {row C:Int} (h:MkR (A++T) row C) (m:n.Row=row) (h0:0<=row) (e:0<=n.Col/\n.Col<=C-1) (f:1<=n.Value/\n.Value<=2130706432) (j: ∀a∈A,ltE a n) (k: ∀b∈T,ltE n b):MkR (A++[n]++T) row C:=by
 obtain ⟨l,p2,p3⟩:=fE.1 h.srt
 refine ⟨fun x c=> ?_, ?_⟩
 ·simp only [aX,dV] at c
  rcases c with (c|rfl)|c
  ·exact h.ent x (by simp [c])
  ·exact ⟨by omega,by omega,e.1,e.2,f.1,f.2⟩
  ·exact h.ent x (by simp [c])
 ·rw [aV,fE]
  refine ⟨l, ?_,fun a i b d=> ?_⟩
  ·rw [aU,gz];exact ⟨k,p2⟩
  ·rw [aU,b9] at d
   rcases d with rfl|d
   ·exact j a i
   ·exact p3 a i b d
theorem MkR.sub {l l':List au} {row C:Int} (h:MkR l row C) (a:List.Sublist l' l):MkR l' row C:=
 ⟨fun x b=>h.ent x (a.subset b),h.srt.sublist a⟩
theorem j5 {l:List au} {row col v C:Int} (h:MkR l row C) (h0:0<=row) (k:0<=col/\col<=C-1) (m:1<=v/\v<=2130706432):MkR (enM l row col v) row C/\(enM l row col v).length<=l.length+1:=by
 obtain ⟨A,T,rfl,o,s⟩:=a2N row col l
 c e: ∀b∈T,b.Row=row/\b.Col>col:=fun b f=>by simpa [enP] using o b f
 rw [LY o]
 rcases s with rfl|⟨B,x,rfl,p⟩
 ·refine ⟨ZU (A:=[]) (n:=⟨row,col,v⟩) h rfl h0 k m (fun a d=>by cases d) (fun b f=> ?_),by simp [enM,enR]⟩
  c:=e b f
  unfold ltE;dsimp only;omega
 ·c t:enM (B++[x]) row col v=if x.Row=row/\x.Col=col then (if aF x.Value v=0 then B else B++[⟨row,col,aF x.Value v⟩]) else B++[x]++[⟨row,col,v⟩]:=by
    unfold enM
    rw [g8,nW,aU,enR,aa (by rw [p];simp)]
    split
    ·split<;>simp
    ·simp
  c u:=h.ent x (by simp)
  obtain ⟨w,p2,p3⟩:=fE.1 h.srt
  obtain ⟨q1,q2,q3⟩:=fE.1 w
  c i: ∀a∈B,ltE a x:=fun a d=>q3 a d x (by simp)
  rw [t]
  split
  ·rename_i y
   c q:MkR (B++T) row C:=h.sub (by simp)
   split
   ·exact ⟨q,by simp;omega⟩
   ·rename_i z
    c r:=c2f x.Value v
    refine ⟨ZU q rfl h0 k ⟨(by c:=r.1;show 1<=aF x.Value v;omega),r.2⟩ (fun a d=> ?_) (fun b f=> ?_),by simp⟩
    ·c:=i a d
     unfold ltE at*;dsimp only;omega
    ·c:=e b f
     unfold ltE;dsimp only;omega
  ·rename_i y
   c j:ltE x ⟨row,col,v⟩:=by
     simp only [enP,hK,bw] at p
     unfold ltE;dsimp only;omega
   refine ⟨ZU h rfl h0 k m (fun a d=> ?_) (fun b f=> ?_),by simp;omega⟩
   ·rcases aX.1 d with d|d
    ·exact Vw (i a d) j
    ·rw [dV] at d;subst d;exact j
   ·c:=e b f
    unfold ltE;dsimp only;omega
end
section
def syM (a b c:Int) (g:Gate) (r:Int) (A B C:List au):Int×List au×List au×List au:=
 if g.Op=1\/g.Op=2 then (r,A,B,C)
 else if g.Op=6 then (r+1,enM A r a 1,enM B r b 1,enM C r c 1)
 else if g.Op=4 then (r+1,enM (enM A r a 1) r b 1,enM B r 0 1,enM C r c 1)
 else if g.Op=5 then (r+1,enM (enM A r a 1) r b 2130706432,enM B r 0 1,enM C r c 1)
 else if g.Op=3 then (r+1,if g.K>0 then enM A r 0 g.K else A,enM B r 0 1,enM C r c 1)
 else if g.Op=7 then (r+1+1,enM (enM A r b 1) (r+1) a 1,enM (enM B r 0 1) (r+1) 0 1,enM (enM C r c 1) (r+1) c 1)
 else (r+1+1,enM (enM A r a 1) (r+1) a 1,enM (enM B r a 1) (r+1) 0 1,enM (enM C r c 1) (r+1) c 1)
theorem vB {L:List au} {row col v C:Int} (h:MkR L row C) (b:L.length<=1000) (a:1<=v/\v<=2130706432):aG L row col v=some (enM L row col v):=
 Uo om ⟨by omega,a.2⟩ h.okF
theorem b8g {t:List Int} {l:List Gate} {c2 c3 c4 c5 c6 c7 r CC:Int} {k:Nat} {A B C:List au} (ok:OkC l) (n:k<l.length) (ht:t.length=l.length) (c:0<=r) (u:r<=100)
 (hC:1<=CC) (o: ∀i,i<l.length->0<=t.getD i 0/\t.getD i 0<=CC-1) (mA:MkR A r CC) (mB:MkR B r CC) (mC:MkR C r CC) (lA:A.length<=900) (lB:B.length<=900) (lC:C.length<=900):
 gS t l c2 c3 c4 c5 c6 c7 (r,(k:Int),A,B,C)=
  (fun S:Int×List au×List au×List au=>some (.inl (S.1,((k+1:Nat):Int),S.2.1,S.2.2.1,S.2.2.2))) (syM (t.getD l[k].A.toNat 0) (t.getD l[k].B.toNat 0) (t.getD k 0) l[k] r A B C):=by
 a hn:=ok.n2
 obtain ⟨g1,w,x,y⟩:=ZG (ok.g k n)
 a p:=o k n
 simp only [gS]
 rw [brd om,ck n,obs]
 generalize l[k]=g at*
 a ek:IntKind.wrap .i64 ((k:Int)+1)=((k+1:Nat):Int):=by rw [ak _ om om];omega
 a er:IntKind.wrap .i64 (r+1)=r+1:=ak _ om om
 a er2:IntKind.wrap .i64 (r+1+1)=r+1+1:=ak _ om om
 a one:(1:Int)<=1/\(1:Int)<=2130706432:=⟨by omega,by omega⟩
 a big:(1:Int)<=2130706432/\(2130706432:Int)<=2130706432:=⟨by omega,by omega⟩
 a z:(0:Int)<=0/\(0:Int)<=CC-1:=⟨by omega,by omega⟩
 a q:atL t (k:Int)=some (t.getD k 0):=KG om
 rw [ek,er,er2,q]
 simp only [obs]
 a s:g.Op=1\/g.Op=2\/g.Op=3\/g.Op=4\/g.Op=5\/g.Op=6\/g.Op=7\/g.Op=8:=by omega
 a e:4<=g.Op->atL t g.A=some (t.getD g.A.toNat 0)/\0<=t.getD g.A.toNat 0/\t.getD g.A.toNat 0<=CC-1:=fun h=>by
   a:=w h
   exact ⟨b5H this.1 om,o _ om⟩
 a f:4<=g.Op->g.Op<=7->atL t g.B=some (t.getD g.B.toNat 0)/\0<=t.getD g.B.toNat 0/\t.getD g.B.toNat 0<=CC-1:=fun h h7=>by
   a:=x h h7
   exact ⟨b5H this.1 om,o _ om⟩
 a dB:=vB (col:=0) mB om one
 a dC:=vB (col:=t.getD k 0) mC om one
 a nB:=j5 mB c z one
 a nC:=j5 mC c p one
 a dB2:=vB (col:=0) (nB.1.up (r:=r+1) om) om one
 a dC2:=vB (col:=t.getD k 0) (nC.1.up (r:=r+1) om) om one
 rcases s with h|h|h|h|h|h|h|h
 ·simp [syM,h,br]
 ·simp [syM,h,br]
 ·by_cases j:g.K>0
  ·a dA:=vB (col:=0) (v:=g.K) mA om ⟨by omega,(y h).2⟩
   simp only [syM,h,al j,dA,dB,dC,obs,ae j];rfl
  ·simp only [syM,h,ag j,dB,dC,obs,aa j];rfl
 ·obtain ⟨b,a2⟩:=e om
  obtain ⟨d,m⟩:=f om om
  a dA:=vB (col:=t.getD g.A.toNat 0) mA om one
  a nA:=j5 mA c a2 one
  a dA2:=vB (col:=t.getD g.B.toNat 0) nA.1 om one
  simp only [syM,h,b,d,dA,dA2,dB,dC,obs];rfl
 ·obtain ⟨b,a2⟩:=e om
  obtain ⟨d,m⟩:=f om om
  a dA:=vB (col:=t.getD g.A.toNat 0) mA om one
  a nA:=j5 mA c a2 one
  a dA2:=vB (col:=t.getD g.B.toNat 0) nA.1 om big
  simp only [syM,h,b,d,dA,dA2,dB,dC,obs];rfl
 ·obtain ⟨b,a2⟩:=e om
  obtain ⟨d,m⟩:=f om om
  a dA:=vB (col:=t.getD g.A.toNat 0) mA om one
  a dBb:=vB (col:=t.getD g.B.toNat 0) mB om one
  simp only [syM,h,b,d,dA,dBb,dC,obs];rfl
 ·obtain ⟨b,a2⟩:=e om
  obtain ⟨d,m⟩:=f om om
  a dA:=vB (col:=t.getD g.B.toNat 0) mA om one
  a nA:=j5 mA c m one
  a dA2:=vB (col:=t.getD g.A.toNat 0) (nA.1.up (r:=r+1) om) om one
  simp only [syM,h,b,d,dA,dA2,dB,dB2,dC,dC2,obs];rfl
 ·obtain ⟨b,a2⟩:=e om
  a dA:=vB (col:=t.getD g.A.toNat 0) mA om one
  a nA:=j5 mA c a2 one
  a dA2:=vB (col:=t.getD g.A.toNat 0) (nA.1.up (r:=r+1) om) om one
  a dBa:=vB (col:=t.getD g.A.toNat 0) mB om one
  a nBa:=j5 mB c a2 one
  a dBa2:=vB (col:=0) (nBa.1.up (r:=r+1) om) om one
  simp only [syM,h,b,dA,dA2,dBa,dBa2,dC,dC2,obs];rfl
end
section
structure Mk3 (r:Int) (A B C:List au) (CC:Int) (n:Nat):Prop where
 a:MkR A (r-1) CC
 b:MkR B (r-1) CC
 c:MkR C (r-1) CC
 la:A.length<=n
 lb:B.length<=n
 lc:C.length<=n
theorem Mk3.of {r' r:Int} {A B C:List au} {CC:Int} {n m:Nat} (e:r'-1=r) (a:MkR A r CC) (b:MkR B r CC) (c:MkR C r CC) (la:A.length<=n) (lb:B.length<=n) (lc:C.length<=n) (h:n<=m):Mk3 r' A B C CC m:=by
 subst e;exact ⟨a,b,c,by omega,by omega,by omega⟩
theorem c72 {a b c r CC:Int} {g:Gate} {A B C:List au} {n:Nat} (e:0<=r) (x:1<=CC) (f:4<=g.Op->0<=a/\a<=CC-1) (h:4<=g.Op->g.Op<=7->0<=b/\b<=CC-1) (k:0<=c/\c<=CC-1) (u:g.Op=3->okF g.K)
 (w:1<=g.Op/\g.Op<=8) (m:Mk3 r A B C CC n):
 Mk3 (syM a b c g r A B C).1 (syM a b c g r A B C).2.1 (syM a b c g r A B C).2.2.1 (syM a b c g r A B C).2.2.2 CC (n+2)/\r<=(syM a b c g r A B C).1/\(syM a b c g r A B C).1<=r+2:=by
 d one:(1:Int)<=1/\(1:Int)<=2130706432:=⟨by omega,by omega⟩
 d big:(1:Int)<=2130706432/\(2130706432:Int)<=2130706432:=⟨by omega,by omega⟩
 d i:(0:Int)<=0/\(0:Int)<=CC-1:=⟨by omega,by omega⟩
 d mA:=m.a.up (r:=r) om
 d mB:=m.b.up (r:=r) om
 d mC:=m.c.up (r:=r) om
 d la:=m.la
 d lb:=m.lb
 d lc:=m.lc
 d nB:=j5 mB e i one
 d nC:=j5 mC e k one
 d nB2:=j5 (nB.1.up (r:=r+1) om) om i one
 d nC2:=j5 (nC.1.up (r:=r+1) om) om k one
 unfold syM
 by_cases l:g.Op=1\/g.Op=2
 ·rw [ae l];exact ⟨⟨m.a,m.b,m.c,by dsimp only;omega,by dsimp only;omega,by dsimp only;omega⟩,by dsimp only;omega,by dsimp only;omega⟩
 rw [aa l]
 by_cases o:g.Op=6
 ·d nA:=j5 mA e (f om) one
  d nb:=j5 mB e (h om om) one
  rw [ae o];exact ⟨Mk3.of (n:=n+1) (by dsimp only;omega) nA.1 nb.1 nC.1 (by dsimp only;omega) (by dsimp only;omega) (by dsimp only;omega) om,by dsimp only;omega,by dsimp only;omega⟩
 rw [aa o]
 by_cases p:g.Op=4
 ·d nA:=j5 mA e (f om) one
  d nA2:=j5 nA.1 e (h om om) one
  rw [ae p];exact ⟨Mk3.of (n:=n+2) (by dsimp only;omega) nA2.1 nB.1 nC.1 (by dsimp only;omega) (by dsimp only;omega) (by dsimp only;omega) om,by dsimp only;omega,by dsimp only;omega⟩
 rw [aa p]
 by_cases q:g.Op=5
 ·d nA:=j5 mA e (f om) one
  d nA2:=j5 nA.1 e (h om om) big
  rw [ae q];exact ⟨Mk3.of (n:=n+2) (by dsimp only;omega) nA2.1 nB.1 nC.1 (by dsimp only;omega) (by dsimp only;omega) (by dsimp only;omega) om,by dsimp only;omega,by dsimp only;omega⟩
 rw [aa q]
 by_cases j:g.Op=3
 ·rw [ae j]
  by_cases s:g.K>0
  ·d nA:=j5 mA e i (v:=g.K) ⟨by omega,(u j).2⟩
   rw [ae s];exact ⟨Mk3.of (n:=n+1) (by dsimp only;omega) nA.1 nB.1 nC.1 (by dsimp only;omega) (by dsimp only;omega) (by dsimp only;omega) om,by dsimp only;omega,by dsimp only;omega⟩
  ·rw [aa s];exact ⟨Mk3.of (n:=n+1) (by dsimp only;omega) mA nB.1 nC.1 (by dsimp only;omega) (by dsimp only;omega) (by dsimp only;omega) om,by dsimp only;omega,by dsimp only;omega⟩
 rw [aa j]
 by_cases t:g.Op=7
 ·d nA:=j5 mA e (h om om) one
  d nA2:=j5 (nA.1.up (r:=r+1) om) om (f om) one
  rw [ae t];exact ⟨Mk3.of (n:=n+2) (by dsimp only;omega) nA2.1 nB2.1 nC2.1 (by dsimp only;omega) (by dsimp only;omega) (by dsimp only;omega) om,by dsimp only;omega,by dsimp only;omega⟩
 ·d nA:=j5 mA e (f om) one
  d nA2:=j5 (nA.1.up (r:=r+1) om) om (f om) one
  d nb:=j5 mB e (f om) one
  d nb2:=j5 (nb.1.up (r:=r+1) om) om i one
  rw [aa t];exact ⟨Mk3.of (n:=n+2) (by dsimp only;omega) nA2.1 nb2.1 nC2.1 (by dsimp only;omega) (by dsimp only;omega) (by dsimp only;omega) om,by dsimp only;omega,by dsimp only;omega⟩
end
section
theorem b0E (l:List Gate) (k:Nat) (op:Int):fU l op<=fU (l.take k) op+(l.length-k):=by
 a h:fU l op=fU (l.take k) op+(l.drop k).countP (fun g=>g.Op==op):=by
   conv=>lhs;rw [<-oV k l]
   simp only [fU,List.countP_append]
 a:=oX (p:=fun g:Gate=>g.Op==op) (l:=l.drop k)
 rw [dQ] at this
 omega
theorem M8 (l:List Gate):2<=lgC l/\lgC l<=5:=b5t _
theorem a4Z {n:Nat} (h:1<=n):((2^n:Nat):Int)=((2^(n-1):Nat):Int)+((2^(n-1):Nat):Int):=by
 obtain ⟨m,rfl⟩: ∃m,n=m+1:=⟨n-1,by omega⟩
 rw [j8,fT];omega
theorem c3t {a b c:Int} (h:mx a b<=c):a<=c/\b<=c:=by
 unfold mx at h
 split at h<;>constructor<;>omega
theorem b3N {l:List Gate} (ok:OkC l):(fU l 2:Int)+1<=((2^(lgC l-1):Nat):Int)/\(l.length:Int)-(fU l 2:Int)<=((2^(lgC l-1):Nat):Int):=by
 a c:=ok.n2
 a d:=ok.p
 a e:=zB l 2
 a b:mx ((fU l 2:Int)+1) ((l.length:Int)-(fU l 2:Int))<=15:=by unfold mx;split<;>omega
 exact c3t (c00 b)
theorem Xr {l:List Gate} (ok:OkC l) {j:Nat} (b:j<l.length):0<=a1x l j/\a1x l j<=((2^lgC l:Nat):Int)-1:=by
 a d:=b3N ok
 a e:=M8 l
 a f:=a4Z (n:=lgC l) om
 a i:fU (l.take j) 2<=j:=by a:=zB (l.take j) 2;rw [bc] at this;omega
 unfold a1x
 rw [show l.getD j ⟨0,0,0,0⟩=l[j] by simp [b]]
 split
 ·rename_i h
  a:=ZL b h
  omega
 ·rename_i h
  a c:=b0E l (j+1) 2
  rw [db b,xT,aa (by simpa using h)] at c
  omega
theorem MC {l:List Gate} {n i:Nat} (hi:i<n):(iz l n).getD i 0=a1x l i:=by
 simp [iz,hi]
def fdM (l:List Gate):Nat->Int×List au×List au×List au
 |0=>(0,[],[],[])
 |j+1=>syM ((iz l l.length).getD (l.getD j ⟨0,0,0,0⟩).A.toNat 0) ((iz l l.length).getD (l.getD j ⟨0,0,0,0⟩).B.toNat 0) ((iz l l.length).getD j 0) (l.getD j ⟨0,0,0,0⟩) (fdM l j).1 (fdM l j).2.1 (fdM l j).2.2.1 (fdM l j).2.2.2
theorem LZ {l:List Gate} (ok:OkC l): ∀j,j<=l.length->Mk3 (fdM l j).1 (fdM l j).2.1 (fdM l j).2.2.1 (fdM l j).2.2.2 ((2^lgC l:Nat):Int) (2*j)/\0<=(fdM l j).1/\(fdM l j).1<=2*j
 |0,_=>⟨⟨MkR.nil _ _,MkR.nil _ _,MkR.nil _ _,aw _,aw _,aw _⟩,Int.le_refl _,by simp [fdM]⟩
 |j+1,h=>by
  obtain ⟨m,h0,t⟩:=LZ ok j om
  d f:j<l.length:=by omega
  d n:l.getD j ⟨0,0,0,0⟩=l[j]:=by simp [f]
  obtain ⟨o,p,q,r⟩:=ZG (ok.g j f)
  d u:=wg (lgC l) (by d:=M8 l;omega)
  d k: ∀a:Int,0<=a/\a<=(j:Int)-1->0<=(iz l l.length).getD a.toNat 0/\(iz l l.length).getD a.toNat 0<=((2^lgC l:Nat):Int)-1:=fun a v=>by
    rw [MC om];exact Xr ok om
  d i:0<=(iz l l.length).getD j 0/\(iz l l.length).getD j 0<=((2^lgC l:Nat):Int)-1:=by
    rw [MC f];exact Xr ok f
  d:=c72 (a:=(iz l l.length).getD l[j].A.toNat 0) (b:=(iz l l.length).getD l[j].B.toNat 0) (c:=(iz l l.length).getD j 0) (g:=l[j]) h0 om (fun h=>k _ (p h)) (fun h s=>k _ (q h s)) i r o m
  rw [fdM,n]
  refine ⟨?_,by omega,by omega⟩
  d e:2*(j+1)=2*j+2:=by omega
  rw [e];exact this.1
def rlM (r:Int):Nat:=if r<=2 then 1 else if r<=4 then 2 else if r<=8 then 3 else if r<=16 then 4 else 5
theorem c3M (r:Int):1<=rlM r/\rlM r<=5:=by
 unfold rlM;repeat' split
 all_goals omega
theorem b8E {r:Int} (h:r<=32):r<=((2^rlM r:Nat):Int):=by
 unfold rlM;repeat' split
 all_goals simp<;>omega
def EQ (l:List Gate):bj:=⟨(rlM (fdM l l.length).1:Int),(lgC l:Int),(fU l 2:Int),(fdM l l.length).2.1,(fdM l l.length).2.2.1,(fdM l l.length).2.2.2⟩
theorem a0r {r:Int} {step:Int->Option (Int⊕(Bool×Int))} (n:r<=32) (b: ∀k:Nat,1<=k->k<=5->step (k:Int)=if ((2^k:Nat):Int)<r then some (.inl ((k+1:Nat):Int)) else some (.inr (false,(k:Int)))):
 Loop step 1=some (false,(rlM r:Int)):=by
 a c:=b 1 om om
 a d:=b 2 om om
 a e:=b 3 om om
 a f:=b 4 om om
 a h:=b 5 om om
 simp only [Nat.reducePow,Nat.reduceAdd] at c d e f h
 unfold rlM
 by_cases i:r<=2
 ·rw [ae i];rw [aa om] at c;exact bX c
 rw [aa i];rw [ae om] at c
 refine (cf c).trans ?_
 by_cases j:r<=4
 ·rw [ae j];rw [aa om] at d;exact bX d
 rw [aa j];rw [ae om] at d
 refine (cf d).trans ?_
 by_cases l:r<=8
 ·rw [ae l];rw [aa om] at e;exact bX e
 rw [aa l];rw [ae om] at e
 refine (cf e).trans ?_
 by_cases m:r<=16
 ·rw [ae m];rw [aa om] at f;exact bX f
 rw [aa m];rw [ae om] at f
 refine (cf f).trans ?_
 rw [aa om] at h;exact bX h
theorem Qz {c:Circuit} (ok:OkC c.Gates):vi c=some (EQ c.Gates):=by
 d o:=ok.n2
 d p:=wg (lgC c.Gates) (by d:=M8 c.Gates;omega)
 unfold vi
 rw [X7 ok,obs,JM om,obs]
 dsimp only
 d key:=bu (step:=gS (iz c.Gates c.Gates.length) c.Gates 0 0 0 0 (lgC c.Gates:Int) (fU c.Gates 2:Int)) (fun j=>((fdM c.Gates j).1,(j:Int),(fdM c.Gates j).2.1,(fdM c.Gates j).2.2.1,(fdM c.Gates j).2.2.2)) c.Gates.length
   (e:=((fdM c.Gates c.Gates.length).1,(c.Gates.length:Int),false,(fdM c.Gates c.Gates.length).2.1,(fdM c.Gates c.Gates.length).2.2.1,(fdM c.Gates c.Gates.length).2.2.2)) (fun j f=> ?_) ?_
 ·d e0:Loop (gS (iz c.Gates c.Gates.length) c.Gates 0 0 0 0 (lgC c.Gates:Int) (fU c.Gates 2:Int)) (0,0,[],[],[])=_:=key
  rw [e0,obs]
  dsimp only
  d q:=(LZ ok c.Gates.length (aw _)).2
  rw [a0r (r:=(fdM c.Gates c.Gates.length).1) om (fun k l s=> ?_),obs]
  ·rfl
  ·simp only [pU]
   d e2:IntKind.wrap .i64 ((k:Int)+1)=((k+1:Nat):Int):=by rw [ak _ om om];omega
   rw [JA om,brd om,D7 om,e2]
   by_cases h:((2^k:Nat):Int)<(fdM c.Gates c.Gates.length).1
   ·rw [brd h,ae h]
   ·rw [brn h,aa h,ag h]
 ·obtain ⟨m,h0,l⟩:=LZ ok j om
  d:=b8g (c2:=0) (c3:=0) (c4:=0) (c5:=0) (c6:=(lgC c.Gates:Int)) (c7:=(fU c.Gates 2:Int)) (r:=(fdM c.Gates j).1) (CC:=((2^lgC c.Gates:Nat):Int)) (A:=(fdM c.Gates j).2.1) (B:=(fdM c.Gates j).2.2.1) (C:=(fdM c.Gates j).2.2.2) ok f (GP c.Gates c.Gates.length) h0 om om
   (fun i hi=>by rw [MC hi];exact Xr ok hi) (m.a.up om) (m.b.up om) (m.c.up om) (by d:=m.la;omega) (by d:=m.lb;omega) (by d:=m.lc;omega)
  d n:c.Gates.getD j ⟨0,0,0,0⟩=c.Gates[j]:=by simp [f]
  rw [this,fdM,n]
 ·simp only [gS]
  rw [brn om,ag om]
end
section
def eT (e:au):Tri:=(e.Row,e.Col,e.Value)
structure Rm (r:Int) (m:List Tri) (L:List au):Prop where
 kd:ms m=true
 lt: ∀t∈m,t.1<r
 eq:L.map eT=fV (m.filter nzT)
theorem Rm.nil (r:Int):Rm r [] []:=⟨rfl,(fun t h=>by cases h),(List.length_eq_zero_iff.1 (m8 []).length_eq).symm⟩
theorem Rm.up {r r':Int} {m:List Tri} {L:List au} (h:Rm r m L) (c:r<=r'):Rm r' m L:=⟨h.kd,fun t b=>by a:=h.lt t b;omega,h.eq⟩
theorem Rm.row {r:Int} {m:List Tri} {L:List au} (h:Rm r m L): ∀e∈L,e.Row<r:=fun e b=>by
 a:eT e∈fV (m.filter nzT):=by rw [<-h.eq];exact bq.2 ⟨e,b,rfl⟩
 a:=(m8 _).mem_iff.1 this
 exact h.lt _ (iW.1 this).1
theorem b0R {x y:Tri} (h:x.1≠y.1):GI x y=false:=by
 simp only [GI,bw];omega
theorem Rm.app {r:Int} {m N:List Tri} {L E:List au} (h:Rm r m L) (hN: ∀t∈N,t.1=r) (k:ms N=true) (hE:(E.map eT).Perm (N.filter nzT)) (l:(E.map eT).Pairwise (fun x y=>zd y x=false)):Rm (r+1) (m++N) (L++E):=by
 c d:ms (m++N)=true:=by
   refine tm (fE.2 ⟨qM h.kd,qM k,fun a i b j=>b0R ?_⟩)
   c:=h.lt a i;c:=hN b j;omega
 refine ⟨d,fun t f=> ?_, ?_⟩
 ·rcases aX.1 f with f|f
  ·c:=h.lt t f;omega
  ·c:=hN t f;omega
 ·refine D3 (tm ((qM d).filter _)) ?_ ?_
  ·rw [cI,List.filter_append,h.eq]
   exact (m8 _).append hE
  ·rw [cI]
   refine fE.2 ⟨by rw [h.eq];exact Dv _,l,fun a i b j=> ?_⟩
   obtain ⟨e,n,rfl⟩:=bq.1 i
   c o:=h.row e n
   c p:=hN b (iW.1 (hE.mem_iff.1 j)).1
   rw [zD]
   simp only [eT]
   omega
theorem FJ {r c:Int}: ∀{m:List Tri},(∀t∈m,t.1<r)->i4 r c m=0
 |[],_=>rfl
 | (x,y,v)::m,h=>by
   a h0:=h (x,y,v) (by simp)
   simp only at h0
   rw [i4,aa om];exact FJ (fun t b=>h t (by simp [b]))
theorem Fl {r c v:Int}: ∀{m:List Tri},(∀t∈m,t.1<r)->iu r c v m=m++[(r,c,v)]
 |[],_=>rfl
 | (x,y,u)::m,h=>by
   a h0:=h (x,y,u) (by simp)
   simp only at h0
   rw [iu,aa om,Fl (fun t b=>h t (by simp [b]))];rfl
theorem S8 {r c:Int} {N:List Tri}: ∀{m:List Tri},(∀t∈m,t.1<r)->i4 r c (m++N)=i4 r c N
 |[],_=>rfl
 | (x,y,v)::m,h=>by
   a h0:=h (x,y,v) (by simp)
   simp only at h0
   rw [eH,i4,aa om];exact S8 (fun t b=>h t (by simp [b]))
theorem a1G {r c v:Int} {N:List Tri}: ∀{m:List Tri},(∀t∈m,t.1<r)->iu r c v (m++N)=m++iu r c v N
 |[],_=>rfl
 | (x,y,u)::m,h=>by
   a h0:=h (x,y,u) (by simp)
   simp only at h0
   rw [eH,iu,aa om,a1G (fun t b=>h t (by simp [b]))];rfl
theorem b9J {v:Int} (h:okF v):aF 0 v=v:=by
 unfold aF okF at*;omega
theorem Wx {r c v:Int} {L:List au} (h: ∀e∈L,e.Row<r):enM L r c v=L++[⟨r,c,v⟩]:=by
 unfold enM
 a: ∀R:List au,(∀e∈R,e.Row<r)->enR r c v R=⟨r,c,v⟩::R:=by
  intro R b
  cases R with
  |nil=>rfl
  |cons e R=>
   a:=b e (by simp)
   a d:enP r c e=false:=by
     simp only [enP,hK,bw];omega
   rw [enR,aa (by rw [d];simp),aa om]
 rw [this _ (fun e f=>h e (by simpa using f))]
 simp
theorem b7f {r c1 c2 v1 v2:Int} {L:List au} (h: ∀e∈L,e.Row<r):enM (L++[⟨r,c1,v1⟩]) r c2 v2=
 if c1>c2 then L++[⟨r,c2,v2⟩,⟨r,c1,v1⟩] else if c1=c2 then (if aF v1 v2=0 then L else L++[⟨r,c2,aF v1 v2⟩]) else L++[⟨r,c1,v1⟩,⟨r,c2,v2⟩]:=by
 by_cases b:c1>c2
 ·rw [ae b,LY (fun e c=>by simp at c;subst c;simp [enP];omega),Wx h]
  simp
 ·rw [aa b]
  unfold enM
  rw [g8,nW,aU,enR,aa (by simp [enP];omega)]
  by_cases a:c1=c2
  ·rw [ae ⟨rfl,a⟩,ae a]
   split<;>simp
  ·rw [aa (fun h=>a h.2),aa a]
   simp
theorem c7e {r c v:Int} (h:v≠0):nzT (r,c,v)=true:=by simp [nzT,h]
theorem b3P {r c v:Int} (h:v≠0):([(r,c,v)]:List Tri).filter nzT=[(r,c,v)]:=by rw [kf,ae (c7e h)];rfl
theorem c2a {r c:Int}:([(r,c,0)]:List Tri).filter nzT=[]:=rfl
theorem Rm.one {r c v:Int} {m:List Tri} {L:List au} (h:Rm r m L) (b:v≠0):Rm (r+1) (iu r c v m) (enM L r c v):=by
 rw [Fl h.lt,Wx h.row]
 refine h.app (fun t a=>by simp at a;subst a;rfl) rfl ?_ ?_
 ·rw [b3P b];exact mm _
 ·simp
theorem Rm.add1 {r c v:Int} {m:List Tri} {L:List au} (h:Rm r m L) (a:1<=v/\v<=2130706432):Rm (r+1) (iu r c (aF (i4 r c m) v) m) (enM L r c v):=by
 rw [FJ h.lt,b9J ⟨by omega,a.2⟩];exact h.one om
theorem Rm.add0 {r c:Int} {m:List Tri} {L:List au} (h:Rm r m L):Rm (r+1) (iu r c (aF (i4 r c m) 0) m) L:=by
 rw [FJ h.lt,b9J ⟨by omega,by omega⟩,Fl h.lt]
 a:=h.app (N:=[(r,c,0)]) (E:=[]) (fun t b=>by simp at b;subst b;rfl) rfl (by rw [c2a];exact mm _) (by simp)
 simpa using this
theorem Rm.add2 {r c1 c2 v1 v2:Int} {m:List Tri} {L:List au} (h:Rm r m L) (j:1<=v1/\v1<=2130706432) (k:1<=v2/\v2<=2130706432):
 Rm (r+1) (iu r c2 (aF (i4 r c2 (iu r c1 (aF (i4 r c1 m) v1) m)) v2) (iu r c1 (aF (i4 r c1 m) v1) m)) (enM (enM L r c1 v1) r c2 v2):=by
 rw [FJ h.lt,b9J (v:=v1) ⟨by omega,j.2⟩,Fl h.lt,S8 h.lt,a1G h.lt,Wx h.row,b7f h.row]
 by_cases e:c1=c2
 ·subst e
  rw [aa om,ae rfl]
  a e1:i4 r c1 [(r,c1,v1)]=v1:=by simp [i4]
  a e2: ∀u,iu r c1 u [(r,c1,v1)]=[(r,c1,u)]:=fun u=>by simp [iu]
  rw [e1,e2]
  by_cases d:aF v1 v2=0
  ·rw [ae d,d]
   a:=h.app (N:=[(r,c1,0)]) (E:=[]) (fun t b=>by simp at b;subst b;rfl) rfl (by rw [c2a];exact mm _) (by simp)
   simpa using this
  ·rw [aa d]
   refine h.app (fun t b=>by simp at b;subst b;rfl) rfl ?_ ?_
   ·rw [b3P d];exact mm _
   ·simp
 ·a e1:i4 r c2 [(r,c1,v1)]=0:=by simp [i4];omega
  a e2: ∀u,iu r c2 u [(r,c1,v1)]=[(r,c1,v1),(r,c2,u)]:=fun u=>by
    rw [iu,aa om];rfl
  rw [e1,e2,b9J ⟨by omega,k.2⟩]
  a hN: ∀t∈([(r,c1,v1),(r,c2,v2)]:List Tri),t.1=r:=fun t b=>by simp at b;rcases b with rfl|rfl<;>rfl
  a f:ms [(r,c1,v1),(r,c2,v2)]=true:=by simp [ms,GI];omega
  a i:([(r,c1,v1),(r,c2,v2)]:List Tri).filter nzT=[(r,c1,v1),(r,c2,v2)]:=by
    rw [kf,ae (c7e om),b3P om]
  by_cases c:c1>c2
  ·rw [ae c]
   refine h.app hN f ?_ ?_
   ·rw [i];exact List.Perm.swap _ _ _
   ·simp only [aP,dL,eT,gz,dV,forall_eq,zD]
    refine ⟨by omega,by simp⟩
  ·rw [aa c,aa e]
   refine h.app hN f ?_ ?_
   ·rw [i];exact mm _
   ·simp only [aP,dL,eT,gz,dV,forall_eq,zD]
    refine ⟨by omega,by simp⟩
theorem nN (r c v:Int): ∀m:List Tri,(iu r c v m).length<=m.length+1
 |[]=>by simp [iu]
 | (x,y,u)::m=>by
   rw [iu];split
   ·simp
   ·a:=nN r c v m;simp;omega
theorem YI {r c:Int} {m:List Tri} (h: ∀t∈m,t.1<r):okF (i4 r c m):=by rw [FJ h];exact ⟨by omega,by omega⟩
theorem Rm.ent {r:Int} {m:List Tri} {L:List au} (h:Rm r m L) (b:m.length<1073741824):tv m=some (L,m):=by
 unfold tv
 rw [h.kd,aN,brd b, <-h.eq]
 a:(L.map eT).map A2=L:=by
  rw [jj]
  a: ∀e∈L,(A2∘eT) e=e:=fun e _=>rfl
  rw [cC this];simp
 rw [this]
end
section
theorem O6 {g:Gate} {k:Int} (h0:0<=k) (u:k<=1048576):Gd g k=some (rR g k):=by
 unfold Gd rR
 simp only [a0s,xB,obs]
 rw [ak (k-1) om om]
 obtain ⟨op,a,b,c⟩:=g
 dsimp only
 generalize decide (0<=a/\a<=k-1)=x
 generalize decide (0<=b/\b<=k-1)=y
 generalize Gg c=z
 generalize (a==0)=za
 generalize (b==0)=zb
 generalize (c==0)=zc
 d e:op=3\/op=4\/op=5\/op=6\/op=7\/op=8\/(op≠3/\op≠4/\op≠5/\op≠6/\op≠7/\op≠8):=by omega
 rcases e with rfl|rfl|rfl|rfl|rfl|rfl|⟨h,i,j,l,m,f⟩
 ·cases x<;>cases y<;>cases z<;>cases za<;>cases zb<;>cases zc<;>rfl
 ·cases x<;>cases y<;>cases z<;>cases za<;>cases zb<;>cases zc<;>rfl
 ·cases x<;>cases y<;>cases z<;>cases za<;>cases zb<;>cases zc<;>rfl
 ·cases x<;>cases y<;>cases z<;>cases za<;>cases zb<;>cases zc<;>rfl
 ·cases x<;>cases y<;>cases z<;>cases za<;>cases zb<;>cases zc<;>rfl
 ·cases x<;>cases y<;>cases z<;>cases za<;>cases zb<;>cases zc<;>rfl
 ·d n:Ci op=0:=by unfold Ci;rw [aa om,aa f]
  d p:(op==3)=false:=by simpa using h
  d q:(op==4)=false:=by simpa using i
  d r:(op==5)=false:=by simpa using j
  d s:(op==6)=false:=by simpa using l
  d t:(op==7)=false:=by simpa using m
  d e8:(op==8)=false:=by simpa using f
  rw [n,p,q,r,s,t,e8]
  generalize decide (1<=op/\op<=8)=o
  cases o<;>cases za<;>cases zb<;>cases zc<;>rfl
theorem SE {c:Circuit} {op:Int} (h:c.Gates.length<=1048576):iH c op=some (fU c.Gates op:Int):=by
 unfold iH
 a key:=bu (step:=fA op c.Gates (c.Gates.length:Int) c.Gates) (fun j=>((fU (c.Gates.take j) op:Int),(j:Int))) c.Gates.length (e:=((fU c.Gates op:Int),(c.Gates.length:Int),false)) (fun j d=> ?_) ?_
 ·rw [show ((0:Int),(0:Int))=((fU (c.Gates.take 0) op:Int),((0:Nat):Int)) from rfl,key];rfl
 ·a b:=zB (c.Gates.take j) op
  rw [bc] at b
  simp only [fA]
  rw [brd om,ck d,obs,db d,xT]
  cases f:(c.Gates[j].Op==op)
  ·rw [ba,aa (by simp),ak _ om om];simp
  ·rw [cL,ae rfl,ak _ om om,ak _ om om];simp
 ·simp only [fA]
  rw [brn om,ag om,bk]
theorem Fp {c:Circuit} (h:c.Gates.length<=1048576):vX c=some (BI c.Gates):=by
 unfold vX BI
 rw [a0s,obs]
 by_cases m:1<=c.Gates.length/\c.Gates.length<=15
 ·rw [al om,al m,aH,ba,aN]
  a key:=Cm (step:=fJ c.Gates (c.Gates.length:Int) c.Gates) (fun k=>(k:Int)) c.Gates.length (fun k=>((c.Gates[k]?.map fun g=>rR g (k:Int)).getD false)) (fun k=> .inl ((c.Gates.getD k ⟨0,0,0,0⟩).Op,(c.Gates.getD k ⟨0,0,0,0⟩).A,(c.Gates.getD k ⟨0,0,0,0⟩).B,(c.Gates.getD k ⟨0,0,0,0⟩).K)) (e:= .inr ((c.Gates.length:Int),false)) (fun k b d=>by
   a f:rR c.Gates[k] (k:Int)=true:=by simpa [b] using d
   simp only [fJ]
   rw [brd om,ck b,obs,O6 om om,obs,f,aH,ba,ak _ om om];rfl)
    (fun k b d=>by
     a f:rR c.Gates[k] (k:Int)=false:=by simpa [b] using d
     a n:c.Gates.getD k ⟨0,0,0,0⟩=c.Gates[k]:=by simp [b]
     simp only [fJ]
     rw [brd om,ck b,obs,O6 om om,obs,f,du,cL,n])
    (by simp only [fJ];rw [brn om,ag om])
  rcases key with ⟨i,j⟩|⟨k,b,i,_,j⟩
  ·a e:Loop (fJ c.Gates (c.Gates.length:Int) c.Gates) 0=some (.inr ((c.Gates.length:Int),false)):=j
   a l:(List.range c.Gates.length).all (fun k=>((c.Gates[k]?.map fun g=>rR g (k:Int)).getD false))=true:=aB.2 fun k b=>i k (bU.1 b)
   rw [e,l,obs,nu,SE h,obs,aN]
  ·a e:Loop (fJ c.Gates (c.Gates.length:Int) c.Gates) 0=some (.inl _):=j
   a l:(List.range c.Gates.length).all (fun k=>((c.Gates[k]?.map fun g=>rR g (k:Int)).getD false))=false:=sL.2 ⟨k,bU.2 b,by rw [i];simp⟩
   rw [e,l,obs,kQ,jA]
 ·rw [ag om,ag m,du,cL,jA]
theorem a7H {c v a2 a3 r:Int} {mA mB mC:List Tri} (h0:0<=r) (h:r<=1000) (b:okF (i4 r c mA)) (d:okF v):
 dR [(c,v)] a2 a3 r mA mB mC=some (r+1,iu r c (aF (i4 r c mA) v) mA,iu r a2 1 mB,iu r a3 1 mC):=by
 unfold dR
 a e:dm mB mC a2 a3 [(c,v)] (([(c,v)]:List (Int×Int)).length:Int) r (mA,0)=some (.inl (iu r c (aF (i4 r c mA) v) mA,1)):=by
   simp only [dm]
   rw [brd (by simp)]
   show (Option.bind (some (c,v)) _)=_
   rw [obs,yV b d,obs,ak _ om om];rfl
 a f:dm mB mC a2 a3 [(c,v)] (([(c,v)]:List (Int×Int)).length:Int) r (iu r c (aF (i4 r c mA) v) mA,1)=some (.inr (iu r c (aF (i4 r c mA) v) mA,1,false)):=by
   simp only [dm]
   rw [brn (by simp),ag (by simp)]
 rw [cf e,bX f,obs,ak _ om om]
theorem c0v {c1 v1 c2 v2 a2 a3 r:Int} {mA mB mC:List Tri} (h0:0<=r) (k:r<=1000) (f:okF (i4 r c1 mA)) (c:okF v1) (d:okF (i4 r c2 (iu r c1 (aF (i4 r c1 mA) v1) mA))) (e:okF v2):
 dR [(c1,v1),(c2,v2)] a2 a3 r mA mB mC=some (r+1,iu r c2 (aF (i4 r c2 (iu r c1 (aF (i4 r c1 mA) v1) mA)) v2) (iu r c1 (aF (i4 r c1 mA) v1) mA),iu r a2 1 mB,iu r a3 1 mC):=by
 unfold dR
 a h:dm mB mC a2 a3 [(c1,v1),(c2,v2)] (([(c1,v1),(c2,v2)]:List (Int×Int)).length:Int) r (mA,0)=some (.inl (iu r c1 (aF (i4 r c1 mA) v1) mA,1)):=by
   simp only [dm]
   rw [brd (by simp)]
   show (Option.bind (some (c1,v1)) _)=_
   rw [obs,yV f c,obs,ak _ om om];rfl
 generalize iu r c1 (aF (i4 r c1 mA) v1) mA=b at*
 a i:dm mB mC a2 a3 [(c1,v1),(c2,v2)] (([(c1,v1),(c2,v2)]:List (Int×Int)).length:Int) r (b,1)=some (.inl (iu r c2 (aF (i4 r c2 b) v2) b,2)):=by
   simp only [dm]
   rw [brd (by simp)]
   show (Option.bind (some (c2,v2)) _)=_
   rw [obs,yV d e,obs,ak _ om om];rfl
 a j:dm mB mC a2 a3 [(c1,v1),(c2,v2)] (([(c1,v1),(c2,v2)]:List (Int×Int)).length:Int) r (iu r c2 (aF (i4 r c2 b) v2) b,2)=some (.inr (iu r c2 (aF (i4 r c2 b) v2) b,2,false)):=by
   simp only [dm]
   rw [brn (by simp),ag (by simp)]
 rw [cf h,cf i,bX j,obs,ak _ om om]
theorem a0F {r c1 c2 u:Int} {m:List Tri} (h: ∀t∈m,t.1<r) (c:okF u):okF (i4 r c2 (iu r c1 u m)):=by
 rw [Fl h,S8 h]
 by_cases b:c1=c2
 ·a:i4 r c2 [(r,c1,u)]=u:=by simp [i4,b]
  rw [this];exact c
 ·a:i4 r c2 [(r,c1,u)]=0:=by simp [i4];exact fun e=>absurd e.symm b
  rw [this];exact ⟨by omega,by omega⟩
structure R3 (r:Int) (mA mB mC:List Tri) (A B C:List au) (n:Nat):Prop where
 a:Rm r mA A
 b:Rm r mB B
 c:Rm r mC C
 la:mA.length<=n
 lb:mB.length<=n
 lc:mC.length<=n
theorem Hi {c v a2 a3 r:Int} {mA mB mC:List Tri} {A B C:List au} {n:Nat} (h0:0<=r) (f:r<=1000) (e:1<=v/\v<=2130706432) (h:R3 r mA mB mC A B C n):
 ∃mA' mB' mC',dR [(c,v)] a2 a3 r mA mB mC=some (r+1,mA',mB',mC')/\R3 (r+1) mA' mB' mC' (enM A r c v) (enM B r a2 1) (enM C r a3 1) (n+1):=
 ⟨_,_,_,a7H h0 f (YI h.a.lt) ⟨by omega,e.2⟩,h.a.add1 e,h.b.one om,h.c.one om,by d:=nN r c (aF (i4 r c mA) v) mA;d:=h.la;omega,by d:=nN r a2 1 mB;d:=h.lb;omega,by d:=nN r a3 1 mC;d:=h.lc;omega⟩
theorem b84 {c a2 a3 r:Int} {mA mB mC:List Tri} {A B C:List au} {n:Nat} (h0:0<=r) (e:r<=1000) (h:R3 r mA mB mC A B C n):
 ∃mA' mB' mC',dR [(c,0)] a2 a3 r mA mB mC=some (r+1,mA',mB',mC')/\R3 (r+1) mA' mB' mC' A (enM B r a2 1) (enM C r a3 1) (n+1):=
 ⟨_,_,_,a7H h0 e (YI h.a.lt) ⟨by omega,by omega⟩,h.a.add0,h.b.one om,h.c.one om,by d:=nN r c (aF (i4 r c mA) 0) mA;d:=h.la;omega,by d:=nN r a2 1 mB;d:=h.lb;omega,by d:=nN r a3 1 mC;d:=h.lc;omega⟩
theorem a6E {c1 v1 c2 v2 a2 a3 r:Int} {mA mB mC:List Tri} {A B C:List au} {n:Nat} (h0:0<=r) (i:r<=1000) (e:1<=v1/\v1<=2130706432) (f:1<=v2/\v2<=2130706432) (h:R3 r mA mB mC A B C n):
 ∃mA' mB' mC',dR [(c1,v1),(c2,v2)] a2 a3 r mA mB mC=some (r+1,mA',mB',mC')/\R3 (r+1) mA' mB' mC' (enM (enM A r c1 v1) r c2 v2) (enM B r a2 1) (enM C r a3 1) (n+2):=
 ⟨_,_,_,c0v h0 i (YI h.a.lt) ⟨by omega,e.2⟩ (a0F h.a.lt (c2f _ _)) ⟨by omega,f.2⟩,h.a.add2 e f,h.b.one om,h.c.one om,by
   d:=nN r c1 (aF (i4 r c1 mA) v1) mA
   d:=nN r c2 (aF (i4 r c2 (iu r c1 (aF (i4 r c1 mA) v1) mA)) v2) (iu r c1 (aF (i4 r c1 mA) v1) mA)
   d:=h.la;omega,by d:=nN r a2 1 mB;d:=h.lb;omega,by d:=nN r a3 1 mC;d:=h.lc;omega⟩
theorem R3.up {r:Int} {mA mB mC:List Tri} {A B C:List au} {n m:Nat} (h:R3 r mA mB mC A B C n) (e:n<=m):R3 r mA mB mC A B C m:=⟨h.a,h.b,h.c,by d:=h.la;omega,by d:=h.lb;omega,by d:=h.lc;omega⟩
theorem vz {t:List Int} {p v:Int} (h:0<=p/\p<t.length):dI p v t=some [(t.getD p.toNat 0,v)]:=by
 unfold dI
 obtain ⟨k,rfl⟩: ∃k:Nat,p=k:=⟨p.toNat,by omega⟩
 rw [KG om,obs,aK]
theorem c2e {t:List Int} {p:Int} (h:0<=p/\p<t.length):atL t p=some (t.getD p.toNat 0):=by
 obtain ⟨k,rfl⟩: ∃k:Nat,p=k:=⟨p.toNat,by omega⟩
 rw [KG om,aK]
theorem a8d {t:List Int} {g:Gate} {k c r:Int} {mA mB mC:List Tri} {A B C:List au} {n:Nat} (q:rR g k=true) (w:k<t.length) (h0:0<=r) (h1:r<=100) (h:R3 r mA mB mC A B C n):
 ∃mA' mB' mC',rW g c t r mA mB mC=some ((syM (t.getD g.A.toNat 0) (t.getD g.B.toNat 0) c g r A B C).1,mA',mB',mC')/\
  R3 (syM (t.getD g.A.toNat 0) (t.getD g.B.toNat 0) c g r A B C).1 mA' mB' mC' (syM (t.getD g.A.toNat 0) (t.getD g.B.toNat 0) c g r A B C).2.1 (syM (t.getD g.A.toNat 0) (t.getD g.B.toNat 0) c g r A B C).2.2.1 (syM (t.getD g.A.toNat 0) (t.getD g.B.toNat 0) c g r A B C).2.2.2 (n+2):=by
 obtain ⟨g1,f,j,s⟩:=ZG q
 d one:(1:Int)<=1/\(1:Int)<=2130706432:=⟨by omega,by omega⟩
 d big:(1:Int)<=2130706432/\(2130706432:Int)<=2130706432:=⟨by omega,by omega⟩
 unfold rW
 d l:g.Op=1\/g.Op=2\/g.Op=3\/g.Op=4\/g.Op=5\/g.Op=6\/g.Op=7\/g.Op=8:=by omega
 rcases l with e|e|e|e|e|e|e|e
 ·rw [kL om,kL om,kL om,kL om,kL om,kL om]
  simp only [syM,e]
  exact ⟨_,_,_,rfl,h.up om⟩
 ·rw [kL om,kL om,kL om,kL om,kL om,kL om]
  simp only [syM,e]
  exact ⟨_,_,_,rfl,h.up om⟩
 ·d i:=s e
  rw [bre e]
  by_cases p:g.K>0
  ·obtain ⟨x,y,z,e1,e2⟩:=Hi (c:=0) (v:=g.K) (a2:=0) (a3:=c) h0 om ⟨by omega,i.2⟩ h
   rw [e1,obs]
   simp only [syM,e,ae p]
   exact ⟨_,_,_,rfl,e2.up om⟩
  ·d u:g.K=0:=by d:=i.1;omega
   obtain ⟨x,y,z,e1,e2⟩:=b84 (c:=0) (a2:=0) (a3:=c) h0 om h
   rw [u,e1,obs]
   simp only [syM,e,aa p]
   exact ⟨_,_,_,rfl,e2.up om⟩
 ·d a:=f om
  d b:=j om om
  rw [kL om,bre e,vz om,obs,vz om,obs,bt (by simp)]
  obtain ⟨x,y,z,e1,e2⟩:=a6E (c1:=t.getD g.A.toNat 0) (v1:=1) (c2:=t.getD g.B.toNat 0) (v2:=1) (a2:=0) (a3:=c) h0 om one one h
  rw [aU,e1,obs]
  simp only [syM,e]
  exact ⟨_,_,_,rfl,e2⟩
 ·d a:=f om
  d b:=j om om
  rw [kL om,kL om,bre e,vz om,obs,vz om,obs,bt (by simp)]
  obtain ⟨x,y,z,e1,e2⟩:=a6E (c1:=t.getD g.A.toNat 0) (v1:=1) (c2:=t.getD g.B.toNat 0) (v2:=2130706432) (a2:=0) (a3:=c) h0 om one big h
  rw [aU,e1,obs]
  simp only [syM,e]
  exact ⟨_,_,_,rfl,e2⟩
 ·d a:=f om
  d b:=j om om
  rw [kL om,kL om,kL om,bre e,vz om,obs,c2e om,obs]
  obtain ⟨x,y,z,e1,e2⟩:=Hi (c:=t.getD g.A.toNat 0) (v:=1) (a2:=t.getD g.B.toNat 0) (a3:=c) h0 om one h
  rw [e1,obs]
  simp only [syM,e]
  exact ⟨_,_,_,rfl,e2.up om⟩
 ·d a:=f om
  d b:=j om om
  rw [kL om,kL om,kL om,kL om,bre e,vz om,obs]
  obtain ⟨x,y,z,e1,e2⟩:=Hi (c:=t.getD g.B.toNat 0) (v:=1) (a2:=0) (a3:=c) h0 om one h
  obtain ⟨x',y',z',m,o⟩:=Hi (c:=t.getD g.A.toNat 0) (v:=1) (a2:=0) (a3:=c) om om one e2
  rw [e1,obs,vz om,obs,m,obs]
  simp only [syM,e]
  exact ⟨_,_,_,rfl,o⟩
 ·d a:=f om
  rw [kL om,kL om,kL om,kL om,kL om,bre e,vz om,obs,c2e om,obs]
  obtain ⟨x,y,z,e1,e2⟩:=Hi (c:=t.getD g.A.toNat 0) (v:=1) (a2:=t.getD g.A.toNat 0) (a3:=c) h0 om one h
  obtain ⟨x',y',z',m,o⟩:=Hi (c:=t.getD g.A.toNat 0) (v:=1) (a2:=0) (a3:=c) om om one e2
  rw [e1,obs,obs,m,obs]
  simp only [syM,e]
  exact ⟨_,_,_,rfl,o⟩
end
section
theorem a2d {s:bj} {k:Nat} (h:s.Cols=((k+1:Nat):Int)) (b:k<=50):eX s=some ((2^k:Nat):Int):=by
 a e:IntKind.wrap .i64 (((k+1:Nat):Int)-1)=(k:Int):=by rw [ak _ om om];omega
 unfold eX
 rw [h,e,brd om,D7 om]
theorem Lq {p w c2 c3 c4 c5:Int} {l:List Gate} {k:Nat} (b:k<=50) (d:0<=p) (c:p<=100):
 eD w l c2 c3 c4 c5 p ((k+1:Nat):Int)=if ((2^k:Nat):Int)<mx (p+1) w then some (.inl ((k+2:Nat):Int)) else some (.inr (false,((k+1:Nat):Int))):=by
 a e2:IntKind.wrap .i64 (((k+1:Nat):Int)+1)=((k+2:Nat):Int):=by rw [ak _ om om];omega
 simp only [eD]
 rw [a2d (k:=k) rfl b,obs,e2,ak (p+1) om om]
 by_cases h:((2^k:Nat):Int)<mx (p+1) w
 ·rw [brd h,ae h]
 ·rw [brn h,aa h,ag h]
theorem b4S {p w c2 c3 c4 c5:Int} {l:List Gate} (e:0<=p) (n:p<=7) (o:w<=15):Loop (eD w l c2 c3 c4 c5 p) 2=some (false,(lgM (mx (p+1) w):Int)):=by
 a q:mx (p+1) w<=15:=by unfold mx;split<;>omega
 a b:=Lq (p:=p) (w:=w) (l:=l) (c2:=c2) (c3:=c3) (c4:=c4) (c5:=c5) (k:=1) om e om
 a c:=Lq (p:=p) (w:=w) (l:=l) (c2:=c2) (c3:=c3) (c4:=c4) (c5:=c5) (k:=2) om e om
 a d:=Lq (p:=p) (w:=w) (l:=l) (c2:=c2) (c3:=c3) (c4:=c4) (c5:=c5) (k:=3) om e om
 a f:=Lq (p:=p) (w:=w) (l:=l) (c2:=c2) (c3:=c3) (c4:=c4) (c5:=c5) (k:=4) om e om
 simp only [Nat.reducePow,Nat.reduceAdd] at b c d f
 unfold lgM
 generalize mx (p+1) w=m at*
 by_cases h:m<=2
 ·rw [ae h];rw [aa om] at b;exact bX b
 rw [aa h];rw [ae om] at b
 refine (cf b).trans ?_
 by_cases i:m<=4
 ·rw [ae i];rw [aa om] at c;exact bX c
 rw [aa i];rw [ae om] at c
 refine (cf c).trans ?_
 by_cases j:m<=8
 ·rw [ae j];rw [aa om] at d;exact bX d
 rw [aa j];rw [ae om] at d
 refine (cf d).trans ?_
 rw [aa om] at f;exact bX f
theorem a3V {l:List Gate} {c9 c10 c11 c12 c13 c14:Int} (ok:OkC l):Loop (eJ l (l.length:Int) l c9 c10 c11 c12 c13 c14) ([],1,((2^(lgC l-1):Nat):Int),0)=
 some (iz l l.length,(fU l 2:Int)+1,((2^(lgC l-1):Nat):Int)+((l.length:Int)-(fU l 2:Int)),(l.length:Int),false):=by
 a m:=ok.n2
 a f:=M8 l
 a i:=wg (lgC l-1) om
 a key:=bu (step:=eJ l (l.length:Int) l c9 c10 c11 c12 c13 c14) (fun j=>(iz l j,(fU (l.take j) 2:Int)+1,((2^(lgC l-1):Nat):Int)+((j:Int)-(fU (l.take j) 2:Int)),(j:Int))) l.length (e:=(iz l l.length,(fU l 2:Int)+1,((2^(lgC l-1):Nat):Int)+((l.length:Int)-(fU l 2:Int)),(l.length:Int),false)) (fun j c=> ?_) ?_
 ·a:((iz l 0,(fU (l.take 0) 2:Int)+1,((2^(lgC l-1):Nat):Int)+(((0:Nat):Int)-(fU (l.take 0) 2:Int)),((0:Nat):Int)):List Int×Int×Int×Int)=([],1,((2^(lgC l-1):Nat):Int),0):=by simp [iz,fU]
  rw [<-this,key]
 ·a k:l.getD j ⟨0,0,0,0⟩=l[j]:=by simp [c]
  a l2:=zB (l.take j) 2
  rw [bc] at l2
  a d:=GP l j
  a b: ∀v:Int,(iz l j++[v]).length*8<=1099511627776:=fun v=>by rw [ab,d];simp;omega
  simp only [eJ]
  rw [brd om,ck c,obs,db c,xT,Sy,a1x,k]
  by_cases h:l[j].Op=2
  ·rw [bre h,bt (b _),ak _ om om,ak _ om om,ae h,ae (by simp [h])]
   simp;omega
  ·rw [kL h,bt (b _),ak _ om om,ak _ om om,aa h,aa (by simp [h])]
   simp;omega
 ·simp only [eJ]
  rw [brn om,ag om,bk]
theorem a1c {l:List Gate} {c16 c17 c18 c19 c20 c21:Int} (ok:OkC l): ∃mA mB mC,Loop (fX (iz l l.length) l (l.length:Int) l c16 c17 c18 c19 c20 c21) ([],[],[],0,0)=
 some (mA,mB,mC,(l.length:Int),false,(fdM l l.length).1)/\R3 (fdM l l.length).1 mA mB mC (fdM l l.length).2.1 (fdM l l.length).2.2.1 (fdM l l.length).2.2.2 (2*l.length):=by
 a hn:=ok.n2
 obtain ⟨⟨mA,mB,mC,i,b,r⟩,p,f,k,m,n⟩:=py (step:=fX (iz l l.length) l (l.length:Int) l c16 c17 c18 c19 c20 c21)
  (fun s=> ∃j:Nat,j<=l.length/\s.2.2.2.1=(j:Int)/\s.2.2.2.2=(fdM l j).1/\R3 (fdM l j).1 s.1 s.2.1 s.2.2.1 (fdM l j).2.1 (fdM l j).2.2.1 (fdM l j).2.2.2 (2*j)) (fun s=>l.length-s.2.2.2.1.toNat)
  (fun e=>e.2.2.2.1=(l.length:Int)/\e.2.2.2.2.1=false/\e.2.2.2.2.2=(fdM l l.length).1/\R3 (fdM l l.length).1 e.1 e.2.1 e.2.2.1 (fdM l l.length).2.1 (fdM l l.length).2.2.1 (fdM l l.length).2.2.2 (2*l.length))
  (fun s=>by
   obtain ⟨mA,mB,mC,i,r⟩:=s
   rintro ⟨j,q,e1,e2,h⟩
   dsimp only at e1 e2 h
   subst e1
   simp only [fX]
   by_cases d:j<l.length
   ·left
    a o:l.getD j ⟨0,0,0,0⟩=l[j]:=by simp [d]
    a hl:=GP l l.length
    obtain ⟨_,u,r1⟩:=LZ ok j q
    obtain ⟨x,y,z,v,w⟩:=a8d (t:=iz l l.length) (c:=(iz l l.length).getD j 0) (ok.g j d) om u om h
    rw [brd om,ck d,obs,brd om,brd (by rw [aK];omega),aK,b8N om,obs,e2,v,obs,ak _ om om]
    refine ⟨_,rfl,⟨j+1,by omega,by dsimp only;omega,by rw [fdM,o], ?_⟩,by dsimp only;omega⟩
    rw [fdM,o]
    exact w
   ·right
    a:j=l.length:=by omega
    subst this
    rw [brn om,ag om]
    exact ⟨_,rfl,rfl,rfl,e2,h⟩)
  ([],[],[],0,0) ⟨0,by omega,rfl,rfl,⟨Rm.nil _,Rm.nil _,Rm.nil _,by simp,by simp,by simp⟩⟩
 dsimp only at f k m n
 subst f k m
 exact ⟨mA,mB,mC,p,n⟩
theorem a0X {c:Circuit} (ok:OkC c.Gates):lH c=some (EQ c.Gates):=by
 d j:=ok.n2
 d l:=ok.p
 d m:=zB c.Gates 2
 d n:=M8 c.Gates
 unfold lH
 d f:Loop (eD ((c.Gates.length:Int)-(fU c.Gates 2:Int)) c.Gates 0 0 0 1 (fU c.Gates 2:Int)) 2=some (false,(lgC c.Gates:Int)):=b4S om om om
 rw [SE om,obs,ak _ om om,f,obs]
 dsimp only
 rw [a2d (k:=lgC c.Gates-1) (by dsimp only;omega) om,obs,a3V ok,obs]
 dsimp only
 obtain ⟨mA,mB,mC,i,e⟩:=a1c (c16:=0) (c17:=0) (c18:=0) (c19:=1) (c20:=(lgC c.Gates:Int)) (c21:=(fU c.Gates 2:Int)) ok
 obtain ⟨_,o,q⟩:=LZ ok c.Gates.length (aw _)
 rw [i,obs]
 dsimp only
 rw [a0r (r:=(fdM c.Gates c.Gates.length).1) om (fun k s t=> ?_),obs,e.a.ent (by d:=e.la;omega),obs,e.b.ent (by d:=e.lb;omega),obs,e.c.ent (by d:=e.lc;omega),obs]
 ·rfl
 ·simp only [kn]
  d e2:IntKind.wrap .i64 ((k:Int)+1)=((k+1:Nat):Int):=by rw [ak _ om om];omega
  rw [brd om,D7 om,e2]
  by_cases h:((2^k:Nat):Int)<(fdM c.Gates c.Gates.length).1
  ·rw [brd h,ae h]
  ·rw [brn h,aa h,ag h]
end
section
structure c8x (c:Circuit) (P I:List Int):Prop where
 ok:OkC c.Gates
 hP:Kk P
 hI:Kk I
 lP:P.length=fU c.Gates 2
 lI:I.length=fU c.Gates 1
theorem a2Q {l:List Gate} (h:OkC l):BI l=true:=by
 unfold BI
 rw [al ⟨h.n1,h.n2⟩,al (by a:=h.p;omega),aN,fy]
 refine aB.2 fun k b=> ?_
 a b:=bU.1 b
 simpa [b] using h.g k b
end
section
def zc (z:List Int) (c:Int):Int:=z.getD c.toNat 0
def rS (z:List Int) (r x:Int) (e:au):Int:=if e.Row=r then aF x (mF e.Value (zc z e.Col)) else x
def rV (z:List Int) (r:Int) (L:List au):Int:=L.foldl (rS z r) 0
structure c8Q (z:List Int) (r:Int) (A A':List au) (x:Int):Prop where
 old: ∀k,k<r->rV z k A'=rV z k A
 new:rV z r A'=x
 row: ∀e∈A',e.Row<r+1
structure c8O (r:Int) (A B C:List au):Prop where
 a: ∀e∈A,e.Row<r
 b: ∀e∈B,e.Row<r
 c: ∀e∈C,e.Row<r
end
section
theorem MkR.mat {l:List au} {row R C:Int} (h:MkR l row C) (r:row<=R-1) (d:l.length<=200):vO l R C=true:=by
 refine a5n d fun t=> ?_
 rintro ⟨x,c,b⟩
 a e:x∈l:=an c
 obtain ⟨f,a2,a3,i,j,k⟩:=h.ent x e
 rcases b with b|⟨s,y,m,b⟩
 ·exact b ⟨⟨f,by omega⟩,⟨a3,i⟩,j,k⟩
 ·refine b ?_
  a n:=(dg.1 c)
  a o:=(dg.1 m)
  obtain ⟨p,e1⟩:=n
  obtain ⟨q,e2⟩:=o
  a:=lV.1 h.srt (t-1) t q p om
  rwa [e1,e2] at this
theorem c6p {l:List Gate} (ok:OkC l):sI (EQ l)=true:=by
 obtain ⟨m,f,h⟩:=LZ ok l.length (aw _)
 d i:=ok.n2
 d j:=M8 l
 d k:=c3M (fdM l l.length).1
 d n:=b8E (r:=(fdM l l.length).1) om
 d o:=b3N ok
 unfold sI
 d c1:(EQ l).Rows=((rlM (fdM l l.length).1:Nat):Int):=rfl
 d c2:(EQ l).Cols=((lgC l:Nat):Int):=rfl
 d c3:(EQ l).Publics=((fU l 2:Nat):Int):=rfl
 d e:((lgC l:Nat):Int)-1=((lgC l-1:Nat):Int):=by omega
 rw [c1,c2,c3,e,D7 om,D7 om,D7 om]
 d la:=m.la
 d lb:=m.lb
 d lc:=m.lc
 d mA:vO (EQ l).A ((2^rlM (fdM l l.length).1:Nat):Int) ((2^lgC l:Nat):Int)=true:=m.a.mat om (by show (fdM l l.length).2.1.length<=200;omega)
 d mB:vO (EQ l).B ((2^rlM (fdM l l.length).1:Nat):Int) ((2^lgC l:Nat):Int)=true:=m.b.mat om (by show (fdM l l.length).2.2.1.length<=200;omega)
 d mC:vO (EQ l).C ((2^rlM (fdM l l.length).1:Nat):Int) ((2^lgC l:Nat):Int)=true:=m.c.mat om (by show (fdM l l.length).2.2.2.length<=200;omega)
 rw [mA,mB,mC,al om,al om,al om];rfl
end
set_option maxRecDepth 20000
section
section
variable (s:bj) (t:Setting) (p z:List Int) (src:Source)
end
variable {s:bj} {t:Setting} {p z:List Int} {src:Source} {k:Int}
end
section
variable {s:bj} {t:Setting} {p z:List Int} {src:Source} {k:Int}
end
section
end
set_option maxRecDepth 10000
section
end
section
end
section
structure c8M (l:List Gate) (P I:List Int):Prop where
 rc:c8x ⟨l⟩ P I
 fit:l.all (c8r (rnM P I l l.length))=true
 n9:l.length<=9
 p3:fU l 2<=3
end
set_option maxRecDepth 20000
section
end
section
variable {s:bj} {t:Setting} {p z:List Int} {src:Source} {k:Int}
end
section
theorem b0C {p:Proof} {s:bj} {t:Setting} (h:okP p s t=true):
 ∃(G W:List (List K)) (va vb vc vw:K),p=⟨p.Root,kvv G,va.1,vb.1,vc.1,kvv W,vw.1,p.Open⟩/\YE s t p.Root G W p.Open:=by
 unfold okP Ex at h
 simp only [aD,aC,aB,h32,KM] at h
 obtain ⟨i,r,j,⟨e,c⟩,k,l,m,⟨u,d⟩,o,q⟩:=h
 obtain ⟨f,v,_⟩:=m0 i
 a lift: ∀(R:List (List Ext)) (n:Nat),(∀x∈R,v7 (n:Int) x=true)->R=kvv (R.map fun g=>g.map toK)/\ ∀g∈(R.map fun g=>g.map toK),g.length=n:=fun R n f=>by
   a b: ∀x∈R,x.length=n/\gX x:=fun x b=>by
     a:=f x b
     simp only [v7,aD,aC] at this
     exact ⟨by omega,c0h.1 this.2⟩
   refine ⟨?_,fun g e=> ?_⟩
   ·rw [kvv,jj]
    conv=>lhs;rw [<-List.map_id R]
    exact cC fun x h=>(a5y (b x h).2).symm
   ·obtain ⟨x,h,rfl⟩:=bq.1 e
    rw [aO];exact (b x h).1
 obtain ⟨eG,lG⟩:=lift p.Gates 4 c
 obtain ⟨eW,lW⟩:=lift p.Wires 3 d
 refine ⟨p.Gates.map fun g=>g.map toK,p.Wires.map fun g=>g.map toK,toK p.VA,toK p.VB,toK p.VC,toK p.VW, ?_,j,by rw [aO];omega,lG,by rw [aO];omega,lW, ?_⟩
 ·rw [<-eG, <-eW,mi k,mi l,mi m,mi o]
 ·exact b0a (by rw [show ((s.Cols.toNat-1:Nat):Int)=s.Cols-1 by omega];exact q)
theorem a2H {s:bj} {t:Setting} {p:List Int} {q:Proof} {src:Source} (h:P3 s t p src) (b:okP q s t=true):
 ∃c src',jZ s t p q src=some (c,src')/\rC s t p q src=some c:=by
 obtain ⟨G,W,va,vb,vc,vw,e,a⟩:=b0C b
 obtain ⟨src',d⟩:=a1i (va:=va) (vb:=vb) (vc:=vc) (vw:=vw) h a
 rw [e]
 exact ⟨_,_,d,Qg h a⟩
theorem a0x {s:bj} {t:Setting} {p:List Int} {q:Proof} {src:Source} (b:s.A.length<=1048576) (d:s.B.length<=1048576) (e:s.C.length<=1048576) (f:p.length<=1048576) (i:SzP q) (j:src.Script.length<=1048576):
 ∃r,uZ s t p q src=some r/\vM s t p q src=some r:=by
 unfold uZ vM
 rw [RH b d e f j,obs]
 by_cases k:p.length>4096
 ·rw [brd om]
  a:stC s t p src=2:=by unfold stC;rw [ae k]
  rw [this,brb om]
  exact ⟨_,rfl,rfl⟩
 rw [brn om,a1S f j,obs]
 by_cases h0:stC s t p src=0
 ·a h:=c4t h0
  a l:=h.fw.1.1
  rw [fj h0,fj h0]
  unfold DB
  rw [XC i b d e,obs,Yr i,obs]
  cases m:okP q s t with
  |false=>exact ⟨_,rfl,rfl⟩
  |true=>
   obtain ⟨c,src',n,o⟩:=a2H h m
   rw [aH,ba,ba,a3A om,obs,n,o]
   exact ⟨_,rfl,rfl⟩
 ·rw [brb h0,brb h0]
  exact ⟨_,rfl,rfl⟩
theorem UE {a:Source} {left:Int} (e:bdSource a) (h0: -1<=left) (f:left<=1048576): ∃r,yQ a left=some r/\ -1<=r/\r<=1048576/\(0<=r->a.Script.length<=1048576):=by
 obtain ⟨h,_,i,_⟩:=e
 b b1':a.State.length<=9223372036854775807:=i
 obtain ⟨r,j,l,m,k⟩:=FH h.1 h0 f
 unfold yQ
 rw [j,obs]
 by_cases c:r<0
 ·rw [brd c];exact ⟨_,rfl,by omega,by omega,by omega⟩
 ·rw [brn c,ak _ om om]
  by_cases d:r-(a.State.length:Int)<0
  ·rw [brd d];exact ⟨_,rfl,by omega,by omega,by omega⟩
  ·rw [brn d];exact ⟨_,rfl,by omega,by omega,fun _=>k om⟩
theorem U2 {a:Source} (h:a.Script.length<=1048576):qV a=some a:=by
 unfold qV
 rw [Fi h,obs]
theorem P6 {a:Source} (h:a.Script.length<=1048576):yd a a=some true:=by
 unfold yd
 rw [Bb h,obs,aH,ba,fj rfl,Rs (by simp),fj rfl]
end
section
variable {s:bj} {t:Setting} {p z:List Int} {src:Source} {k:Int}
end
section
variable {v ρ:Nat} {t P:List K} {s:Source} {k:Int}
end
section
variable {s:bj} {t:Setting} {p z:List Int} {src:Source} {k:Int}
theorem L4 {l:List Gate} {P:List Int} {t:Setting} {q:Proof} {src:Source} (ok:OkC l) (b:P.length<=4096):gU ⟨l⟩ t P q src=uZ (EQ l) t P q src:=by
 a d:=ok.n2
 unfold gU
 rw [brn om,Fp (by show l.length<=_;omega),obs,show BI (Circuit.mk l).Gates=true from a2Q ok,aH,ba,a0X (c:=⟨l⟩) ok,obs]
 show (uZ (EQ l) t P q src).bind (fun r=>some (r.1,r.2))=_
 cases uZ (EQ l) t P q src<;>rfl
theorem LB {l:List Gate} {P:List Int} {t:Setting} {q:Proof} {src:Source} (ok:OkC l) (b:P.length<=4096):gR ⟨l⟩ t P q src=vM (EQ l) t P q src:=by
 a d:=ok.n2
 unfold gR
 rw [brn om,Fe (by show l.length<=_;omega),obs,show BI (Circuit.mk l).Gates=true from a2Q ok,aH,ba,Qz (c:=⟨l⟩) ok,obs]
 show (vM (EQ l) t P q src).bind (fun r=>some (r.1,r.2))=_
 cases vM (EQ l) t P q src<;>rfl
theorem b85 {l:List Gate} (ok:OkC l):(EQ l).A.length<=1048576/\(EQ l).B.length<=1048576/\(EQ l).C.length<=1048576:=by
 obtain ⟨_,_,_,lA,lB,lC⟩:=m0 (c6p ok)
 exact ⟨by omega,by omega,by omega⟩
theorem Z4 {c:Circuit} {t:Setting} {p:List Int} {q:Proof} {src:Source} (f:c.Gates.length<=1048576) (i:p.length<=1048576) (j:SzP q) (k:src.Script.length<=1048576):
 ∃r,gU c t p q src=some r/\gR c t p q src=some r:=by
 obtain ⟨l⟩:=c
 by_cases m:p.length>4096
 ·refine ⟨(false,2), ?_, ?_⟩
  ·unfold gU;rw [brd om]
  ·unfold gR;rw [brd om]
 ·cases e:BI l with
  |false=>
   refine ⟨(false,19), ?_, ?_⟩
   ·unfold gU;rw [brn om,Fp f,obs,show BI (Circuit.mk l).Gates=false from e];rfl
   ·unfold gR;rw [brn om,Fe f,obs,show BI (Circuit.mk l).Gates=false from e];rfl
  |true=>
   h ok:=b5x e
   obtain ⟨a,b,d⟩:=b85 ok
   rw [L4 ok om,LB ok om]
   exact a0x a b d i j k
end
section
theorem c2M {a:List Gate} {left:Int} (b:a.length<=9223372036854775807) (h0: -1<=left) (d:left<=1048576):
 ∃r,C7 a left=some r/\ -1<=r/\r<=1048576/\(0<=r->a.length<=1048576):=by
 unfold C7
 rw [ak _ om om]
 by_cases c:left-(a.length:Int)<0
 ·rw [brd c];exact ⟨_,rfl,by omega,by omega,by omega⟩
 ·rw [brn c];exact ⟨_,rfl,by omega,by omega,by omega⟩
theorem c2v {a:Circuit} {left:Int} (c:a.Gates.length<=9223372036854775807) (h0: -1<=left) (d:left<=1048576):
 ∃r,vL a left=some r/\ -1<=r/\r<=1048576/\(0<=r->a.Gates.length<=1048576):=by
 unfold vL
 obtain ⟨b,eb,e,f,h⟩:=c2M c h0 d
 rw [eb,obs]
 by_cases cb:b<0
 ·rw [brd cb];exact ⟨_,rfl,by omega,by omega,by omega⟩
 rw [brn cb]
 exact ⟨_,rfl,e,f,h⟩
theorem c43 {a:List Gate} (t:a.length<=1048576):Bl a=some a:=by
 unfold Bl
 b o:zg (a.length:Int) (a.length:Int) 32=true:=by
   b d:(a.length:Int)*((32:Nat):Int)<=(cV:Int):=by simp only [cV];omega
   unfold zg;rw [al (show (0:Int)<=(a.length:Int) by omega),al (Int.le_refl _),al d];rfl
 rw [F3 o]
 b key:=py (step:=pG a) (fun s=>0<=s.2/\s.2<=a.length/\s.1.length=a.length/\ ∀k:Nat,(k:Int)<s.2->s.1[k]? =a[k]?) (fun s=>(a.length-s.2).toNat)
   (fun e=>e.1=a) ?_ ((List.replicate ((a.length:Int).toNat) (Gate.mk (0:Int) (0:Int) (0:Int) (0:Int))),(0:Int)) ⟨by simp,by simp,by simp,fun k (f:(k:Int)<0)=>by omega⟩
 ·obtain ⟨e,p,h⟩:=key
  rw [p];simp only [obs,h]
 ·rintro ⟨l,i⟩ ⟨h0,q,m,j⟩
  dsimp only at h0 q m j
  simp only [pG]
  by_cases c:i<(a.length:Int)
  ·obtain ⟨x,rest,e1,e2,n⟩:=oK (l:=a) (i:=i.toNat) om
   obtain ⟨y,rest2,u,v,r⟩:=oK (l:=l) (i:=i.toNat) om
   rw [brd c,H8 h0 n]
   simp only [obs,Kb]
   rw [brd h0,brd om,r]
   simp only [obs]
   rw [ak (i+1) om om]
   refine .inl ⟨_,rfl,⟨by dsimp only;omega,by dsimp only;omega,by simp [m],fun k f=> ?_⟩,by dsimp only;omega⟩
   dsimp only at f ⊢
   rw [fB]
   by_cases e:i.toNat=k
   ·rw [ae e,ae om, <-e,n]
   ·rw [aa e];exact j k om
  ·rw [brn c]
   refine .inr ⟨_,rfl, ?_⟩
   apply mZ
   intro k
   show l[k]? =a[k]?
   by_cases f:k<a.length
   ·exact j k om
   ·rw [bD om,bD om]
theorem c3Y {a:List Gate} (h:a.length<=1048576):BF a a=some true:=by
 unfold BF
 rw [fj rfl]
 b key:=py (step:=pI a a) (fun t=>0<=t/\t<=a.length) (fun t=>(a.length-t).toNat) (fun e=> ∃p,e= .inr p) ?_ 0 ⟨by omega,by omega⟩
 ·obtain ⟨e,d,p,rfl⟩:=key
  rw [d];rfl
 ·intro t ⟨h0,j⟩
  simp only [pI]
  by_cases c:t<(a.length:Int)
  ·left
   obtain ⟨x,r,e1,e2,f⟩:=oK (l:=a) (i:=t.toNat) om
   rw [brd c,H8 h0 f]
   simp only [obs,LP]
   rw [fj rfl,fj rfl,fj rfl,fj rfl]
   simp only [obs,aH,ba]
   rw [ak (t+1) om om]
   exact ⟨_,rfl,⟨by omega,by omega⟩,by omega⟩
  ·right
   rw [brn c]
   exact ⟨_,rfl,_,rfl⟩
theorem c6n {c:Circuit} (h:c.Gates.length<=1048576):vn c c=some true:=by
 unfold vn
 rw [c3Y h];rfl
theorem c3j {c:Circuit} (h:c.Gates.length<=1048576):nX c=some c:=by
 unfold nX
 rw [c43 h];rfl
end
section
theorem law_FnExactVerifyCircuit (c:Circuit) (t:Setting) (a:List Int) (p:Proof) (src:Source) (i:bdCircuit c) (w:bdSetting t) (y:bdL bdI a) (j:bdProof p) (d:bdSource src):j0 c t a p src=some true:=by
 unfold j0
 by_cases c1:(a.length:Int)>1048576
 ·rw [brd c1]
 rw [brn c1]
 obtain ⟨r,e1,k,l,m⟩:=c2v (a:=c) (left:=1048576) i.1 om om
 rw [e1,obs]
 by_cases c2:r<0
 ·rw [brd c2]
 rw [brn c2]
 obtain ⟨q,e2,q0,q1,n⟩:=X5 j k l
 rw [e2,obs]
 by_cases c3:q<0
 ·rw [brd c3]
 rw [brn c3]
 obtain ⟨z,o,z0,z1,s⟩:=UE d q0 q1
 rw [o,obs]
 by_cases c4:z<0
 ·rw [brd c4]
 rw [brn c4]
 b e:=m om
 b f:=n om
 b h:=s om
 obtain ⟨x,u,v⟩:=Z4 (c:=c) (t:=t) (p:=a) (q:=p) (src:=src) e om f h
 unfold vQ
 rw [c3j e,a0f om,Ym f,U2 h]
 simp only [obs]
 rw [u,v]
 simp only [obs]
 rw [c6n e,Ty om,Q9 f,P6 h]
 simp only [obs,aH,ba]
 rw [Rs (by simp),fj rfl]
end
end Go.AI.Fn
