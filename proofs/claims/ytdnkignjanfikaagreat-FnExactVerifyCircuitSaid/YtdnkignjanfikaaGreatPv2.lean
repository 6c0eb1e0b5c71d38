/- Part. -/
import Derived.Test.YtdnkignjanfikaaGreatPv1
set_option linter.unusedVariables false
set_option linter.unusedSimpArgs false
namespace Go.AI.Fn
section
noncomputable def okP (p:Proof) (s:bi) (t:Setting):Bool:=
 sJ s&&(setB t&&(h32 p.Root&&(Ep p.Gates s.Rows 4&&(n0 p.VA&&(n0 p.VB&&(n0 p.VC&&(Ep p.Wires s.Cols 3&&(n0 p.VW&&okO p.Open (s.Cols-1) t))))))))
theorem c1O {R:List (List Ext)} {size:Int} {X:Type} {x y:X} (m:R.length<=1048576) (h: ∀g∈R,g.length<=1048576) {step:Int->Option (Int⊕(Unit⊕(Int×Bool)))} {g:Int×Bool->Option X} (j: ∀e,g e=some y)
 (f: ∀t,step t=br (decide (t<(R.length:Int))) ((atL R t).bind fun x=>br ((x.length:Int) !=size) (some (.inr (.inl ()))) ((atL R t).bind fun l=>(lF l).bind fun r=>br (!r) (some (.inr (.inl ()))) (some (.inl (IntKind.wrap .i64 (t+1)))))) (some (.inr (.inr (t,decide (t<(R.length:Int))))))):
 (Loop step 0).bind (alt (fun _=>some x) g)=some (if R.all (vl size)=true then y else x):=by
 rw [<-C9 R [] (vl size)]
 have i: ∀k,k<R.length->R.getD k []∈R:=fun k a=>by simp [a]
 refine Bz R.length _ (fun _=>()) (fun k a b=> ?_) (fun k a b=> ?_) (e2:=((R.length:Int),false)) ?_ (fun _=>rfl) (j _)
 ·have:=h _ (i k a)
  simp only [vl,aD,aC] at b
  rw [f,brd om,pX (d:=[]) a,obs,fk b.1,obs,oc om,obs,b.2,aH,ba,ak _ om om];rfl
 ·have:=h _ (i k a)
  rw [f,brd om,pX (d:=[]) a,obs]
  by_cases c:((R.getD k []).length:Int)=size
  ·rw [vl,al c,aN] at b
   rw [fk c,obs,oc om,obs,b];rfl
  ·rw [brb c]
 ·rw [f,brn om,ag om]
theorem WU {p:Proof} {s:bi} {t:Setting} (h:SzP p) (c:s.A.length<=1048576) (d:s.B.length<=1048576) (e:s.C.length<=1048576):Ci p s t=some (okP p s t):=by
 have f:=h.2.1.1
 have i:=h.2.2.1.1
 unfold Ci okP
 rw [HW om om om,obs]
 cases b:sJ s
 ·rfl
 ·obtain ⟨j,hc,_⟩:=m6 b
  rw [cK,yI,obs,A1,z1 om (fun g a=>by have:=h.2.1.2 g a;omega),z1 om (fun g a=>by have:=h.2.2.1.2 g a;omega),ak _ om om,PI h.2.2.2.sm,tQ,tQ,tQ,tQ]
  simp only [obs,aN,h32]
  cases setB t<;>cases decide (p.Root.length=32)<;>cases Ep p.Gates s.Rows 4<;>cases n0 p.VA<;>cases n0 p.VB<;>cases n0 p.VC<;>cases Ep p.Wires s.Cols 3<;>cases n0 p.VW<;>rfl
theorem Z2 {p:Proof} {s:bi} {t:Setting} (h:SzP p):BH p s t=some (okP p s t):=by
 have a:=h.2.1.1
 have b:=h.2.2.1.1
 unfold BH okP Ep
 rw [HY,obs]
 cases d:sJ s
 ·rfl
 ·obtain ⟨k,hc,_⟩:=m6 d
  rw [aH,ba,y6,obs,oc (by simp),obs,ak (s.Cols-1) om om,SJ h.2.2.2.sm]
  cases setB t
  ·rfl
  ·rw [aH,ba,aN,aN,h32]
   by_cases c1:p.Root.length=32
   ·rw [fk om,al c1,aN]
    by_cases c2:(p.Gates.length:Int)=s.Rows
    ·rw [fk c2,al c2,aN]
     by_cases c3:(p.Wires.length:Int)=s.Cols
     ·rw [fk c3,al c3,aN]
      simp only [obs]
      have f:=fun l c c2 c3 c4 c5 c6 c7 c8 c10 c11 c12 c13 c14 c15 c16 c17 c18 c19 c20 c21 c22 c23 c24 c25 c26=>c1O (R:=p.Wires) (size:=3) (x:=false) (y:=okO p.Open (s.Cols-1) t) (step:=uD l c c2 c3 c4 c5 c6 c7 c8 p.Wires c10 c11 c12 c13 c14 c15 c16 c17 c18 c19 c20 c21 c22 c23 c24 c25 c26) (g:=fun _=>some (okO p.Open (s.Cols-1) t)) b h.2.2.1.2 (fun _=>rfl) (fun t=>rfl)
      have i:=fun l c c3 c4 c5 c6 c7 c8 c9 c10 c11 c12 c13 c14 c15 c16 c17 c18 c19 c20 c21 c22 c23 c24 c25 c26 g (j: ∀e,g e=_)=>c1O (R:=p.Gates) (size:=4) (x:=false) (y:=if p.Wires.all (vl 3)=true then okO p.Open (s.Cols-1) t else false) (step:=uy l c p.Gates c3 c4 c5 c6 c7 c8 c9 c10 c11 c12 c13 c14 c15 c16 c17 c18 c19 c20 c21 c22 c23 c24 c25 c26) (g:=g) a h.2.1.2 j (fun t=>rfl)
      rw [i _ _ _ _ _ _ _ _ _ _ _ _ _ _ _ _ _ _ _ _ _ _ _ _ _ _ _ (fun e=>f _ _ _ _ _ _ _ _ _ _ _ _ _ _ _ _ _ _ _ _ _ _ _ _ _ _)]
      simp only [cj,oC,fx]
      cases n0 p.VA<;>cases n0 p.VB<;>cases n0 p.VC<;>cases n0 p.VW<;>cases p.Gates.all (vl 4)<;>cases p.Wires.all (vl 3)<;>rfl
     ·rw [brb c3,ag c3]
      cases p.Gates.all (vl 4)<;>cases n0 p.VA<;>cases n0 p.VB<;>cases n0 p.VC<;>rfl
    ·rw [brb c2,ag c2];rfl
   ·rw [brb om,ag c1];rfl
end
section
theorem b64 {R T:List K} {β:K} {l t t2 t3 c4 c5 c6:List au} {c c2 c3 c7 c8 c11 c12 RR CC:Int} (a:OkM l RR CC) (b:(R.length:Int)=RR) (d:(T.length:Int)=CC):
 Loop (oo (kv R) t t2 t3 l (l.length:Int) c c2 c3 c4 c5 c6 c7 c8 β.1.A β.1.B c11 c12) (kv T,0)=some (kv (l.foldl (btS β R) T),(l.length:Int),false):=
 Sw (t:=t) (t2:=t2) (t3:=t3) (t4:=0) (c:=c) (c2:=c2) (c3:=c3) (c4:=c4) (c5:=c5) (c6:=c6) (c9:=0) (c10:=0) (c11:=0) (c12:=0) a b d
theorem b1U {R T:List K} {β:K} {l t t2 t3 c4 c5 c6:List au} {c c2 c3 c7 c8 c9 c10 RR CC:Int} (a:OkM l RR CC) (b:(R.length:Int)=RR) (d:(T.length:Int)=CC):
 Loop (oi (kv R) t t2 t3 l (l.length:Int) c c2 c3 c4 c5 c6 c7 c8 c9 c10 β.1.A β.1.B) (kv T,0)=some (kv (l.foldl (btS β R) T),(l.length:Int),false):=
 Sw (t:=t) (t2:=t2) (t3:=t3) (t4:=0) (c:=c) (c2:=c2) (c3:=c3) (c4:=c4) (c5:=c5) (c6:=c6) (c9:=0) (c10:=0) (c11:=0) (c12:=0) a b d
def btM (s:bi) (R:List K) (x y z:K):List K:=s.C.foldl (btS z R) (s.B.foldl (btS y R) (s.A.foldl (btS x R) (List.replicate (2^s.Cols.toNat) 0)))
theorem a7g (s:bi) (R:List K) (x y z:K):(btM s R x y z).length=2^s.Cols.toNat:=by rw [btM,pS,pS,pS,aS]
theorem a7l (n:Nat):kv (List.replicate n 0)=List.replicate n e0:=by rw [kv,List.map_replicate];rfl
theorem a02 {s:bi} (h:sJ s=true):OkM s.A ((2^s.Rows.toNat:Nat):Int) ((2^s.Cols.toNat:Nat):Int)/\OkM s.B ((2^s.Rows.toNat:Nat):Int) ((2^s.Cols.toNat:Nat):Int)/\OkM s.C ((2^s.Rows.toNat:Nat):Int) ((2^s.Cols.toNat:Nat):Int)/\
 uU s.A ((2^s.Rows.toNat:Nat):Int) ((2^s.Cols.toNat:Nat):Int)=true/\uU s.B ((2^s.Rows.toNat:Nat):Int) ((2^s.Cols.toNat:Nat):Int)=true/\uU s.C ((2^s.Rows.toNat:Nat):Int) ((2^s.Cols.toNat:Nat):Int)=true:=by
 obtain ⟨c,d,_⟩:=m6 h
 have e1:s.Rows=(s.Rows.toNat:Int):=by omega
 have e2:s.Cols=(s.Cols.toNat:Int):=by omega
 have a:bC .i64 1 s.Rows=((2^s.Rows.toNat:Nat):Int):=by conv=>lhs;rw [e1];rw [Cu om]
 have b:bC .i64 1 s.Cols=((2^s.Cols.toNat:Nat):Int):=by conv=>lhs;rw [e2];rw [Cu om]
 unfold sJ at h
 simp only [aD,aC,a,b] at h
 obtain ⟨_,_,_,mA,mB,mC⟩:=h
 exact ⟨Xl mA,Xl mB,Xl mC,mA,mB,mC⟩
theorem OT {s:bi} (h:sJ s=true) {p R:List K} {x y z:K} (c:p.length=s.Rows.toNat) (b:eqT (kv p)=kv R):sA s (kv p) (x.1,y.1,z.1)=some (kv (btM s R x y z)):=by
 obtain ⟨f,hc,_⟩:=m6 h
 obtain ⟨mA,mB,mC,_⟩:=a02 h
 have d:=wm s.Cols.toNat om
 have a:(R.length:Int)=((2^s.Rows.toNat:Nat):Int):=by
  have:=Dw (kv p)
  rw [b,cg,cg,c] at this;omega
 have e2:s.Cols=(s.Cols.toNat:Int):=by omega
 have e:bC .i64 1 s.Cols=((2^s.Cols.toNat:Nat):Int):=by conv=>lhs;rw [e2];rw [Cu om]
 unfold sA ft
 rw [brd om,e,EI om om om,CH (FE p) (by rw [cg];omega),obs,b,obs]
 dsimp only
 rw [aK,show Ext.mk 0 0=e0 from rfl, <-a7l,Sw mA a (by rw [aS]),obs]
 dsimp only
 rw [b64 mB a (by rw [pS,aS]),obs]
 dsimp only
 rw [b1U mC a (by rw [pS,pS,aS]),obs];rfl
def JW (l:List Int):List UInt8:=l.flatMap ig
theorem Ta (l:List Int):(JW l).length=4*l.length:=by
 induction l with
 |nil=>rfl
 |cons x l ih=>simp only [JW,cm,ab,dG,ah] at*;omega
theorem Wa (l:List Int) (x:Int):JW (l++[x])=JW l++ig x:=by simp [JW]
def setT (t:Setting):List UInt8:=[UInt8.ofInt t.Rate,UInt8.ofInt t.Queries,UInt8.ofInt t.Grind]
def GL (s:bi) (t:Setting) (p:List Int):List UInt8:=H (Ou s)++setT t++JW p
theorem b9G {l:List (List UInt8)} {l3 L:List UInt8} {p:List Int} {c c2 c3 c7 c8 c9:Int} {c4 c5 c6:List au} (b:p.length<=5000) (hL:L.length<=1000):Loop (iO l l3 p (p.length:Int) c c2 c3 c4 c5 c6 c7 c8 c9) (L,0)=some (L++JW p,(p.length:Int),false):=by
 have key:=bu (step:=iO l l3 p (p.length:Int) c c2 c3 c4 c5 c6 c7 c8 c9) (fun j=>(L++JW (p.take j),(j:Int))) p.length (e:=(L++JW p,(p.length:Int),false)) (fun j a=> ?_) ?_
 ·simpa [JW] using key
 ·simp only [iO]
  have hn:=Ta (p.take j)
  rw [bc] at hn
  rw [brd om,ck a,obs,qQ (by simp only [ab];omega),obs,ak _ om om,db a,Wa,aV];rfl
 ·simp only [iO]
  rw [brn om,ag om,bk]
theorem b0B {l L:List UInt8} {p:List Int} {c c2 c3 c7 c8 c9 c11 c13 c14 c16:Int} {c10:List Ext} {c12 c15:List UInt8} {c4 c5 c6:List au} (b:p.length<=5000) (hL:L.length<=1000):Loop (jC l p c c2 c3 c4 c5 c6 c7 c8 c9 c10 c11 c12 c13 c14 c15 c16) (L,0)=some (L++JW p,(p.length:Int),false):=by
 have key:=bu (step:=jC l p c c2 c3 c4 c5 c6 c7 c8 c9 c10 c11 c12 c13 c14 c15 c16) (fun j=>(L++JW (p.take j),(j:Int))) p.length (e:=(L++JW p,(p.length:Int),false)) (fun j a=> ?_) ?_
 ·simpa [JW] using key
 ·simp only [jC]
  have hn:=Ta (p.take j)
  rw [bc] at hn
  rw [brd om,ck a,obs,A4,obs,bt (by simp only [ab,dG];omega),ak _ om om,db a,Wa,aV];rfl
 ·simp only [jC]
  rw [brn om,ag om,bk]
theorem SF (s:bi) (t:Setting) (p:List Int):(GL s t p).length=35+4*p.length:=by
 simp only [GL,ab,E7,setT,ah,ai,Ta]
end
section
noncomputable def stC (s:bi) (t:Setting) (p:List Int) (src:Source):Int:=
 if p.length>4096 then 2 else if sJ s=false then 1 else if setB t=false then 1 else if p.all Gw=false then 1 else if XU src=false then 1
 else if (p.length:Int)≠s.Publics then 17 else if 999800<mx src.At src.Count then 6 else 0
theorem R7 {s:bi} {t:Setting} {p:List Int} {src:Source} (c:s.A.length<=1048576) (d:s.B.length<=1048576) (e:s.C.length<=1048576) (f:p.length<=1048576) (h:src.Script.length<=1048576):
 vg s t p src=some (stC s t p src):=by
 unfold vg stC
 by_cases c1:p.length>4096
 ·rw [brd om,ae c1]
 rw [brn om,aa c1,HW om om om,obs]
 cases i:sJ s
 ·rfl
 rw [aH,ba,aa (by simp),yI,obs]
 cases j:setB t
 ·rfl
 rw [aH,ba,aa (by simp),b05 om,obs]
 cases k:p.all Gw
 ·rfl
 rw [aH,ba,aa (by simp),TZ om,obs]
 cases b:XU src
 ·rfl
 have a:=QP.1 b
 have h0:0<=mx src.At src.Count:=by have:=a.4;have:=a.6;unfold mx;split<;>assumption
 have l:=c83 a.5 a.7
 rw [aH,ba,aa (by simp)]
 by_cases c6:(p.length:Int)=s.Publics
 ·rw [fk c6,aa (by simp [c6])]
  unfold uR
  rw [obs,ak _ om om]
  by_cases c7:999800<mx src.At src.Count
  ·rw [brd om,ae c7]
  ·rw [brn om,aa c7]
 ·rw [brb c6,ae c6]
theorem a07 {s:bi} {t:Setting} {p:List Int} {src:Source} (b:p.length<=1048576) (c:src.Script.length<=1048576):
 FB s t p src=some (stC s t p src):=by
 unfold FB stC
 by_cases c1:p.length>4096
 ·rw [brd om,ae c1]
 rw [brn om,aa c1,HY,obs]
 cases d:sJ s
 ·rfl
 rw [aH,ba,aa (by simp),y6,obs]
 cases e:setB t
 ·rfl
 rw [aH,ba,aa (by simp),a1j om,obs]
 cases f:p.all Gw
 ·rfl
 rw [aH,ba,aa (by simp),Uk om,obs]
 cases a:XU src
 ·rfl
 have h:=QP.1 a
 rw [aH,ba,aa (by simp)]
 by_cases c6:(p.length:Int)=s.Publics
 ·rw [fk c6,aa (by simp [c6])]
  unfold DE
  rw [ak _ om om]
  by_cases c7:999800<mx src.At src.Count
  ·rw [ae c7]
   by_cases c8:src.At>999800
   ·rw [brd om];rfl
   ·have:src.Count>999800:=by unfold mx at c7;split at c7<;>omega
    rw [brn om,al om];rfl
  ·rw [aa c7]
   have:src.At<=999800/\src.Count<=999800:=by unfold mx at c7;split at c7<;>omega
   rw [brn om,ag om];rfl
 ·rw [brb c6,ae c6]
structure OK (s:bi) (t:Setting) (p:List Int) (src:Source):Prop where
 sy:sJ s=true
 se:setB t=true
 pl:p.length<=4096
 pf:Lz p
 pe:(p.length:Int)=s.Publics
 fw:Few src 999800
theorem c3O {s:bi} {t:Setting} {p:List Int} {src:Source} (h:stC s t p src=0):OK s t p src:=by
 unfold stC at h
 split at h
 ·cases h
 split at h
 ·cases h
 split at h
 ·cases h
 split at h
 ·cases h
 split at h
 ·cases h
 split at h
 ·cases h
 split at h
 ·cases h
 rename_i j b c d e f a
 have i:=QP.1 (by simpa using e)
 refine ⟨by simpa using b,by simpa using c,by omega,c8w.1 (by simpa using d),by simpa using f,i, ?_, ?_⟩<;>(unfold mx at a;split at a<;>omega)
theorem Sh {s:bi} {t:Setting} {p:List Int} {src:Source} (h:OK s t p src):vV s t p=some (GL s t p):=by
 obtain ⟨_,_,_,a,b,c⟩:=m6 h.sy
 have d:=h.pl
 have e:=a2d s
 have f:=E7 (Ou s)
 unfold vV
 rw [OY a b c,obs,v8 (by simpa using by omega) (by simp),obs,show [Ou s].flatten=Ou s by simp,bt om,bt (by simp only [ab,ah,ai];omega),
  b9G om (by simp only [ab,ah,ai];omega),obs];rfl
theorem UF {s:bi} {t:Setting} {p:List Int} {src:Source} (h:OK s t p src):yt s t p src=some (tkM src (GL s t p)):=by
 obtain ⟨_,_,_,a,b,c⟩:=m6 h.sy
 have d:=h.pl
 have e:=SF s t p
 have f:=E7 (Ou s)
 unfold yt
 rw [RU a b c,obs,bt (by simp only [ah,ai];omega),b0B om (by simp only [ab,ah,ai];omega),obs]
 dsimp only
 rw [show H (Ou s)++[UInt8.ofInt t.Rate,UInt8.ofInt t.Queries,UInt8.ofInt t.Grind]++JW p=GL s t p from rfl,vx h.fw.1.3 om,obs]
theorem Mx {R T B:List K} {M:List (List au)} {k:Nat} {c7 c8 c9:Int} {c10 c11 c12:List au} {RR CC:Int} (f:k<M.length) (h:k<B.length) (d:OkM (M.getD k []) RR CC) (n:(R.length:Int)=RR) (o:(T.length:Int)=CC):
 Loop (fE M (kv B) (kv R) (k:Int) c7 c8 c9 c10 c11 c12) (kv T,0)=some (kv ((M.getD k []).foldl (btS (B.getD k 0) R) T),((M.getD k []).length:Int),false):=by
 have p:=d.len
 have a:M[(k:Int).toNat]? =some (M.getD k []):=by rw [aK];simp [f]
 generalize M.getD k []=l at*
 have key:=bu (step:=fE M (kv B) (kv R) (k:Int) c7 c8 c9 c10 c11 c12) (fun j=>(kv ((l.take j).foldl (btS (B.getD k 0) R) T),(j:Int))) l.length (e:=(kv (l.foldl (btS (B.getD k 0) R) T),(l.length:Int),false)) (fun j c=> ?_) ?_
 ·exact key
 ·simp only [fE]
  obtain ⟨i,hc,_⟩:=d.ent _ (aZ c)
  have m:=b6e (d.ent _ (aZ c))
  have hn:=pS (B.getD k 0) R (l.take j) T
  have b:atL (kv R) l[j].Row=some (R.getD l[j].Row.toNat 0).1:=by
   have:=wE (l:=R) (j:=l[j].Row.toNat) om
   rwa [ew i.1] at this
  rw [brd om,brd om,a,obs,brd om,brd om,brd om,obs,ck c,obs,brd hc.1,brd (by rw [cg,hn];omega),a79 om,obs,wE h,obs,KJ,obs,b,obs, <-DF m,
   fB (kF _).2 (aI _),obs,fB (aI _) (rm _ _),obs,lO (aI _) (rm _ _),obs,brd hc.1,brd (by rw [cg,hn];omega),obs,ak _ om om,db c,i0]
  show some (Sum.inl ((kv _).set l[j].Col.toNat ((List.foldl (btS (B.getD k 0) R) T (l.take j)).getD l[j].Col.toNat 0+B.getD k 0*(kF l[j].Value*R.getD l[j].Row.toNat 0)).1,_))=_
  rw [b4k,show B.getD k 0*(kF l[j].Value*R.getD l[j].Row.toNat 0)=B.getD k 0*R.getD l[j].Row.toNat 0*kF l[j].Value by exact kg];rfl
 ·simp only [fE]
  rw [brd om,brd om,a,obs,brn om,ag om,bk]
theorem UN {s:bi} (h:sJ s=true) {p R:List K} {x y z:K} (f:p.length=s.Rows.toNat) (b:eqT (kv p)=kv R):yS s (kv p) (kv [x,y,z])=some (kv (btM s R x y z)):=by
 obtain ⟨n,hc,_⟩:=m6 h
 obtain ⟨mA,mB,mC,_⟩:=a02 h
 have i:=wm s.Cols.toNat om
 have a:(R.length:Int)=((2^s.Rows.toNat:Nat):Int):=by
  have:=Dw (kv p)
  rw [b,cg,cg,f] at this;omega
 have e2:s.Cols=(s.Cols.toNat:Int):=by omega
 have l:bC .i64 1 s.Cols=((2^s.Cols.toNat:Nat):Int):=by conv=>lhs;rw [e2];rw [Cu om]
 have c:=Mx (M:=[s.A,s.B,s.C]) (B:=[x,y,z]) (k:=0) (T:=List.replicate (2^s.Cols.toNat) 0) (R:=R) (c7:=s.Rows) (c8:=s.Cols) (c9:=s.Publics) (c10:=s.A) (c11:=s.B) (c12:=s.C) (by simp) (by simp) mA a (by rw [aS])
 have d:=Mx (M:=[s.A,s.B,s.C]) (B:=[x,y,z]) (k:=1) (T:=s.A.foldl (btS x R) (List.replicate (2^s.Cols.toNat) 0)) (R:=R) (c7:=s.Rows) (c8:=s.Cols) (c9:=s.Publics) (c10:=s.A) (c11:=s.B) (c12:=s.C) (by simp) (by simp) mB a (by rw [pS,aS])
 have l2:=Mx (M:=[s.A,s.B,s.C]) (B:=[x,y,z]) (k:=2) (T:=s.B.foldl (btS y R) (s.A.foldl (btS x R) (List.replicate (2^s.Cols.toNat) 0))) (R:=R) (c7:=s.Rows) (c8:=s.Cols) (c9:=s.Publics) (c10:=s.A) (c11:=s.B) (c12:=s.C) (by simp) (by simp) mC a (by rw [pS,pS,aS])
 simp only [List.getD_cons_zero,List.getD_cons_succ] at c d l2
 unfold yS
 rw [en _ om om,brd om,l,EI om om om,KC (FE p) (by rw [cg];omega),obs,b]
 rw [aK,show Ext.mk 0 0=e0 from rfl, <-a7l]
 have key:=bu (step:=lM [s.A,s.B,s.C] (kv [x,y,z]) (kv R) s.Rows s.Cols s.Publics s.A s.B s.C) (fun j=>(kv (match j with
  |0=>List.replicate (2^s.Cols.toNat) 0
  |1=>s.A.foldl (btS x R) (List.replicate (2^s.Cols.toNat) 0)
  |2=>s.B.foldl (btS y R) (s.A.foldl (btS x R) (List.replicate (2^s.Cols.toNat) 0))
  |_=>btM s R x y z),(j:Int))) 3 (e:=(kv (btM s R x y z),3,false)) (fun j m=> ?_) (by rfl)
 ·have key':Loop (lM [s.A,s.B,s.C] (kv [x,y,z]) (kv R) s.Rows s.Cols s.Publics s.A s.B s.C) (kv (List.replicate (2^s.Cols.toNat) 0),0)=_:=key
  rw [key',obs]
 ·simp only [lM]
  rw [brd om]
  match j,m with
  |0,_=>
   show (Loop (fE [s.A,s.B,s.C] (kv [x,y,z]) (kv R) ((0:Nat):Int) s.Rows s.Cols s.Publics s.A s.B s.C) (kv (List.replicate (2^s.Cols.toNat) 0),0)).bind _=_
   rw [c,obs];rfl
  |1,_=>
   show (Loop (fE [s.A,s.B,s.C] (kv [x,y,z]) (kv R) ((1:Nat):Int) s.Rows s.Cols s.Publics s.A s.B s.C) (kv (s.A.foldl (btS x R) (List.replicate (2^s.Cols.toNat) 0)),0)).bind _=_
   rw [d,obs];rfl
  |2,_=>
   show (Loop (fE [s.A,s.B,s.C] (kv [x,y,z]) (kv R) ((2:Nat):Int) s.Rows s.Cols s.Publics s.A s.B s.C) (kv (s.B.foldl (btS y R) (s.A.foldl (btS x R) (List.replicate (2^s.Cols.toNat) 0))),0)).bind _=_
   rw [l2,obs];rfl
theorem Y4 (x y z:K):Bg x.1 y.1 z.1=some (x+z*(y-x)).1:=by
 unfold Bg
 rw [qW y.2 x.2,obs,fQ z.2 (zd _ _),obs,lN x.2 (rm _ _),obs];rfl
theorem c82 {L:List Ext} (h:hG L) (d:L.length=3): ∃a b c:K,L=kv [a,b,c]:=by
 obtain ⟨l,rfl⟩:=b93 h
 rw [cg] at d
 match l,d with
 |[a,b,c],_=>exact ⟨a,b,c,rfl⟩
noncomputable def b3K (s:bi) (p:List Int) (P:List K):K:=toK (b9z s p (kv P))
theorem a36 (s:bi) (p:List Int) (P:List K):(b3K s p P).1=b9z s p (kv P):=m1 (b7u _ _)
noncomputable def vx1 (s:bi) (t:Setting) (p:List Int) (root:List UInt8) (src:Source):Source:=tkM (tkM src (GL s t p)) root
noncomputable def vg1 (s:bi) (t:Setting) (p:List Int) (root:List UInt8) (G:List (List K)) (src:Source):Int×List K×K×Source:=vfM 2 bv0 G 0 0 (drS (vx1 s t p root src) s.Rows.toNat)
noncomputable def vx3 (s:bi) (t:Setting) (p:List Int) (root:List UInt8) (G:List (List K)) (va vb vc:K) (src:Source):Source:=rsM (vg1 s t p root G src).2.2.2 [va,vb,vc]
noncomputable def vr (x:Source) (j:Nat):K:=toK ((drL x 3).getD j e0)
noncomputable def vg2 (s:bi) (t:Setting) (p:List Int) (root:List UInt8) (G W:List (List K)) (va vb vc:K) (src:Source):Int×List K×K×Source:=
 vfM 1 bv0 W 0 (vr (vx3 s t p root G va vb vc src) 0*va+(vr (vx3 s t p root G va vb vc src) 1*vb+vr (vx3 s t p root G va vb vc src) 2*vc)) (drS (vx3 s t p root G va vb vc src) 3)
noncomputable def a7B (s:bi) (p:List Int) (rx ry:List K) (r0 r1 r2 vw:K):K:=
 UL (btM s (eqK rx) r0 r1 r2) (eqK ry)*(b3K s p (ry.take (s.Cols.toNat-1))+ry.getD (s.Cols.toNat-1) 0*(vw-b3K s p (ry.take (s.Cols.toNat-1))))
theorem Wm (s:bi) (p:List Int) (rx ry:List K) (a b c vw:K):a7B s p rx ry a b c vw=UL (btM s (eqK rx) a b c) (eqK ry)*(b3K s p (ry.take (s.Cols.toNat-1))+ry.getD (s.Cols.toNat-1) 0*(vw-b3K s p (ry.take (s.Cols.toNat-1)))):=rfl
noncomputable def b77 (s:bi) (t:Setting) (p:List Int) (root:List UInt8) (G W:List (List K)) (va vb vc vw:K) (o:Opening) (src:Source):Int:=
 if (vg1 s t p root G src).1≠0 then (vg1 s t p root G src).1
 else if cmK 2 [eaK ((drL (vx1 s t p root src) s.Rows.toNat).map toK) (vg1 s t p root G src).2.1 1,va,vb,vc]≠(vg1 s t p root G src).2.2.1 then 11
 else if (vg2 s t p root G W va vb vc src).1≠0 then (vg2 s t p root G W va vb vc src).1
 else if a7B s p (vg1 s t p root G src).2.1 (vg2 s t p root G W va vb vc src).2.1 (vr (vx3 s t p root G va vb vc src) 0) (vr (vx3 s t p root G va vb vc src) 1) (vr (vx3 s t p root G va vb vc src) 2) vw≠(vg2 s t p root G W va vb vc src).2.2.1 then 11
 else chO (s.Cols.toNat-1) t.Rate.toNat t.Queries.toNat t.Grind.toNat root ((vg2 s t p root G W va vb vc src).2.1.take (s.Cols.toNat-1)) vw o (rsM (vg2 s t p root G W va vb vc src).2.2.2 [vw])
theorem a6i {L:List Ext} (h:hG L):kv (L.map toK)=L:=by
 rw [kv,jm]
 conv=>rhs;rw [<-List.map_id L]
 exact cC fun x a=>m1 (h x a)
theorem c6Z {x:Source} {k:Int} (h:Few x k) (d:k<=999890):drL x 3=kv [vr x 0,vr x 1,vr x 2]:=by
 have f:=Rl h d (n:=3) om
 obtain ⟨a,b,c,e⟩:=c82 f (oQ x 3)
 rw [vr,vr,vr,e]
 show [a.1,b.1,c.1]=[(toK a.1).1,(toK b.1).1,(toK c.1).1]
 rw [m1 a.2,m1 b.2,m1 c.2]
end
section
structure WC (s:bi) (t:Setting) (root:List UInt8) (G W:List (List K)) (o:Opening):Prop where
 rt:root.length=32
 gl:G.length=s.Rows.toNat
 g4: ∀g∈G,g.length=4
 wl:W.length=s.Cols.toNat
 w3: ∀g∈W,g.length=3
 op:OkO o (s.Cols.toNat-1) t
variable {s:bi} {t:Setting} {p:List Int} {src:Source} {root:List UInt8} {G W:List (List K)} {va vb vc vw:K} {o:Opening}
theorem ZG (h:OK s t p src):Few (vx1 s t p root src) 999802:=((h.fw.take _).take _).mono om
theorem Xh (h:OK s t p src):Few (drS (vx1 s t p root src) s.Rows.toNat) 999807:=by
 obtain ⟨a,_⟩:=m6 h.sy
 exact (He (ZG h) om _ om).mono om
theorem YW (h:OK s t p src) (q:WC s t root G W o):Few (vg1 s t p root G src).2.2.2 999822:=by
 obtain ⟨a,_⟩:=m6 h.sy
 have:=q.gl
 exact (Rc (kind:=2) b2c G 0 0 _ _ (Xh h) om).mono om
theorem WB (h:OK s t p src) (q:WC s t root G W o):Few (vx3 s t p root G va vb vc src) 999823:=(Few.take (YW h q) _).mono om
theorem YI (h:OK s t p src) (q:WC s t root G W o):Few (drS (vx3 s t p root G va vb vc src) 3) 999826:=(He (WB h q) om 3 om).mono om
theorem a6Q (h:OK s t p src) (q:WC s t root G W o):Few (vg2 s t p root G W va vb vc src).2.2.2 999841:=by
 obtain ⟨_,hc,_⟩:=m6 h.sy
 have:=q.wl
 exact (Rc (kind:=1) b2c W 0 _ _ _ (YI h q) om).mono om
theorem a6C (q:WC s t root G W o) (z:(vg1 s t p root G src).1=0):(vg1 s t p root G src).2.1.length=s.Rows.toNat:=(Se (kind:=2) (bv:=bv0) G 0 0 _ z).trans q.gl
theorem a7P (q:WC s t root G W o) (z:(vg2 s t p root G W va vb vc src).1=0):(vg2 s t p root G W va vb vc src).2.1.length=s.Cols.toNat:=(Se (kind:=1) (bv:=bv0) W 0 _ _ z).trans q.wl
theorem b5i (a b c x y z:K):UL [a,b,c] [x,y,z]=a*x+(b*y+c*z):=by simp only [UL];exact kg
theorem a1e (h:OK s t p src) (q:WC s t root G W o):
 ∃src',jZ s t p ⟨root,kvv G,va.1,vb.1,vc.1,kvv W,vw.1,o⟩ src=some (b77 s t p root G W va vb vc vw o src,src'):=by
 obtain ⟨hr,hc,hpb,_⟩:=m6 h.sy
 obtain ⟨_,hpub⟩:=a7M h.sy
 have hpl:=h.pl
 have hpe:=h.pe
 have hst:=SF s t p
 have hrt:=q.rt
 have f1:=ZG (root:=root) h
 have f2:=Xh (root:=root) h
 have f3:=WB (va:=va) (vb:=vb) (vc:=vc) h q
 have f4:=YI (va:=va) (vb:=vb) (vc:=vc) h q
 have f5:=a6Q (va:=va) (vb:=vb) (vc:=vc) h q
 have bT:=xn h.se
 have eR:(s.Rows.toNat:Int)=s.Rows:=by omega
 have f:=Jl f1 om (n:=s.Rows.toNat) om
 rw [eR] at f
 have i:cO 2 (Ext.mk 0 0) (kvv G) (drS (vx1 s t p root src) s.Rows.toNat)=_:=Gv (kind:=2) (.inr rfl) (R:=G) (c:=0) f2 (by have:=q.gl;omega)
 rw [show vfM 2 bv0 G 0 0 (drS (vx1 s t p root src) s.Rows.toNat)=vg1 s t p root G src from rfl] at i
 unfold jZ
 dsimp only
 rw [Sh h,obs,vW h.fw.1.3 om,obs,bt om,vW (h.fw.take _).1.3 om,obs]
 rw [show tkM (tkM src (GL s t p)) root=vx1 s t p root src from rfl,f,obs]
 dsimp only
 rw [i,obs]
 unfold b77
 by_cases d:(vg1 s t p root G src).1=0
 ·have k:=a6C q d
  rw [ae d,aa (gz d)]
  dsimp only
  have m:=Rl f1 om (n:=s.Rows.toNat) om
  have hea:Jk (drL (vx1 s t p root src) s.Rows.toNat) (kv (vg1 s t p root G src).2.1)=some (eaK ((drL (vx1 s t p root src) s.Rows.toNat).map toK) (vg1 s t p root G src).2.1 1).1:=by
   have:=a7G (A:=(drL (vx1 s t p root src) s.Rows.toNat).map toK) (B:=(vg1 s t p root G src).2.1) (by rw [aO,oQ,k]) (by rw [aO,oQ];omega)
   rwa [a6i m] at this
  have hcm: ∀x:K,xO 2 [x.1,va.1,vb.1,vc.1]=some (cmK 2 [x,va,vb,vc]).1:=fun x=>Yj (kind:=2) (v:=[x,va,vb,vc]) (.inr rfl) rfl
  rw [fk rfl,hea,obs,hcm,obs,HB]
  by_cases z2:cmK 2 [eaK ((drL (vx1 s t p root src) s.Rows.toNat).map toK) (vg1 s t p root G src).2.1 1,va,vb,vc]=(vg1 s t p root G src).2.2.1
  ·have r:=Jl f3 om (n:=3) om
   rw [show ((3:Nat):Int)=3 from rfl,c6Z f3 om] at r
   have hab:da [va.1,vb.1,vc.1] (vg1 s t p root G src).2.2.2=some (vx3 s t p root G va vb vc src):=Sj (g:=[va,vb,vc]) (YW h q).1 (by simp)
   have u: ∀a b c:K,Lt (kv [a,b,c]) [va.1,vb.1,vc.1]=some (a*va+(b*vb+c*vc)).1:=fun a b c=>by
    have:=PD (FE [a,b,c]) (FE [va,vb,vc]) (by simp [cg]) (by simp [cg])
    rw [a61,b5i] at this
    exact this
   have w:cO 1 (vr (vx3 s t p root G va vb vc src) 0*va+(vr (vx3 s t p root G va vb vc src) 1*vb+vr (vx3 s t p root G va vb vc src) 2*vc)).1 (kvv W) (drS (vx3 s t p root G va vb vc src) 3)=_:=Gv (kind:=1) (.inl rfl) (R:=W) f4 (by have:=q.wl;omega)
   rw [show vfM 1 bv0 W 0 (vr (vx3 s t p root G va vb vc src) 0*va+(vr (vx3 s t p root G va vb vc src) 1*vb+vr (vx3 s t p root G va vb vc src) 2*vc)) (drS (vx3 s t p root G va vb vc src) 3)=vg2 s t p root G W va vb vc src from rfl] at w
   rw [ae z2,aa (gz z2),hab,obs,r,obs]
   dsimp only
   rw [u,obs,w,obs]
   by_cases e:(vg2 s t p root G W va vb vc src).1=0
   ·have hl2:=a7P q e
    have htk:((vg2 s t p root G W va vb vc src).2.1.take (s.Cols.toNat-1)).length=s.Cols.toNat-1:=by rw [bc];omega
    have hat:=wE (l:=(vg2 s t p root G W va vb vc src).2.1) (j:=s.Cols.toNat-1) om
    rw [show ((s.Cols.toNat-1:Nat):Int)=s.Cols-1 by omega] at hat
    rw [ae e,aa (gz e)]
    dsimp only
    have hbt:=OT h.sy (p:=(vg1 s t p root G src).2.1) (R:=eqK (vg1 s t p root G src).2.1) (x:=vr (vx3 s t p root G va vb vc src) 0) (y:=vr (vx3 s t p root G va vb vc src) 1) (z:=vr (vx3 s t p root G va vb vc src) 2) k (Pt _)
    have hbl:=a7g s (eqK (vg1 s t p root G src).2.1) (vr (vx3 s t p root G va vb vc src) 0) (vr (vx3 s t p root G va vb vc src) 1) (vr (vx3 s t p root G va vb vc src) 2)
    have hel:=c1p (vg2 s t p root G W va vb vc src).2.1
    have hpw:=wm s.Cols.toNat om
    rw [hl2] at hel
    have hdt:Lt (kv (btM s (eqK (vg1 s t p root G src).2.1) (vr (vx3 s t p root G va vb vc src) 0) (vr (vx3 s t p root G va vb vc src) 1) (vr (vx3 s t p root G va vb vc src) 2))) (kv (eqK (vg2 s t p root G W va vb vc src).2.1))=some (UL (btM s (eqK (vg1 s t p root G src).2.1) (vr (vx3 s t p root G va vb vc src) 0) (vr (vx3 s t p root G va vb vc src) 1) (vr (vx3 s t p root G va vb vc src) 2)) (eqK (vg2 s t p root G W va vb vc src).2.1)).1:=by
     rw [PD (FE _) (FE _) (by rw [cg,cg];omega) (by rw [cg];omega),a61]
    rw [fk rfl,ak (s.Cols-1) om om,ma om om (by rw [cg];omega),obs,hat,obs,brd (by simp [cg])]
    rw [show a5o (kv [vr (vx3 s t p root G va vb vc src) 0,vr (vx3 s t p root G va vb vc src) 1,vr (vx3 s t p root G va vb vc src) 2])=some ((vr (vx3 s t p root G va vb vc src) 0).1,(vr (vx3 s t p root G va vb vc src) 1).1,(vr (vx3 s t p root G va vb vc src) 2).1) from rfl,obs,hbt,obs,
     CH (FE _) (by rw [cg];omega),obs,Pt,hdt,obs,show (Int.toNat 0)=0 from rfl,fP,show (s.Cols-1).toNat-0=s.Cols.toNat-1 by omega,a7n,
     TN h.sy om h.pf (FE _) (by rw [cg];omega),obs, <-a36,Y4,obs,fQ (aI _) (aI _),obs, <-K.mul_val, <-Wm,HB]
    by_cases z4:a7B s p (vg1 s t p root G src).2.1 (vg2 s t p root G W va vb vc src).2.1 (vr (vx3 s t p root G va vb vc src) 0) (vr (vx3 s t p root G va vb vc src) 1) (vr (vx3 s t p root G va vb vc src) 2) vw=(vg2 s t p root G W va vb vc src).2.2.1
    ·obtain ⟨src',hck,_⟩:=a6k (s:=rsM (vg2 s t p root G W va vb vc src).2.2.2 [vw]) (root:=root) (cl:=vw) (P:=(vg2 s t p root G W va vb vc src).2.1.take (s.Cols.toNat-1)) (nq:=t.Queries.toNat) (ρ:=t.Rate.toNat) (bits:=t.Grind.toNat) q.op htk om om om ((Few.take f5 _).mono om:Few (rsM (vg2 s t p root G W va vb vc src).2.2.2 [vw]) 999842) om
     have hab2:da [vw.1] (vg2 s t p root G W va vb vc src).2.2.2=some (rsM (vg2 s t p root G W va vb vc src).2.2.2 [vw]):=Sj (g:=[vw]) f5.1 (by simp)
     rw [ae z4,aa (gz z4),hab2,obs,hck,obs]
     exact ⟨_,rfl⟩
    ·rw [aa z4,ae z4]
     exact ⟨_,rfl⟩
   ·rw [aa e,ae e]
    dsimp only
    rw [brb e]
    exact ⟨_,rfl⟩
  ·rw [aa z2,ae z2]
   exact ⟨_,rfl⟩
 ·rw [aa d,ae d]
  dsimp only
  rw [brb d]
  exact ⟨_,rfl⟩
theorem c52 (D a b z:K):D*((1-z)*a+z*b)=D*(a+z*(b-a)):=by exact kg
theorem Pw (h:OK s t p src) (q:WC s t root G W o):
 rv s t p ⟨root,kvv G,va.1,vb.1,vc.1,kvv W,vw.1,o⟩ src=some (b77 s t p root G W va vb vc vw o src):=by
 obtain ⟨hr,hc,hpb,_⟩:=m6 h.sy
 obtain ⟨_,hpub⟩:=a7M h.sy
 have hpl:=h.pl
 have hpe:=h.pe
 have hrt:=q.rt
 have f1:=ZG (root:=root) h
 have f2:=Xh (root:=root) h
 have f3:=WB (va:=va) (vb:=vb) (vc:=vc) h q
 have f4:=YI (va:=va) (vb:=vb) (vc:=vc) h q
 have f5:=a6Q (va:=va) (vb:=vb) (vc:=vc) h q
 have bT:=xn h.se
 have eR:(s.Rows.toNat:Int)=s.Rows:=by omega
 have i:=MC f1 om (n:=s.Rows.toNat) om
 rw [eR] at i
 have k:lU 2 (Ext.mk 0 0) (kvv G) (G.length:Int) (drS (vx1 s t p root src) s.Rows.toNat)=_:=Ny (kind:=2) (.inr rfl) (R:=G) (c:=0) f2 (by have:=q.gl;omega)
 rw [show vfM 2 bv0 G 0 0 (drS (vx1 s t p root src) s.Rows.toNat)=vg1 s t p root G src from rfl,q.gl,eR] at k
 unfold rv
 dsimp only
 rw [UF h,obs,vx (h.fw.take _).1.3 om,obs]
 rw [show tkM (tkM src (GL s t p)) root=vx1 s t p root src from rfl,i,obs]
 dsimp only
 rw [k,obs]
 unfold b77
 by_cases d:(vg1 s t p root G src).1=0
 ·have m:=a6C q d
  rw [ae d,aa (gz d)]
  dsimp only
  have r:=Rl f1 om (n:=s.Rows.toNat) om
  have hea:sY (drL (vx1 s t p root src) s.Rows.toNat) (kv (vg1 s t p root G src).2.1)=some (eaK ((drL (vx1 s t p root src) s.Rows.toNat).map toK) (vg1 s t p root G src).2.1 1).1:=by
   have:=a7h (A:=(drL (vx1 s t p root src) s.Rows.toNat).map toK) (B:=(vg1 s t p root G src).2.1) (by rw [aO,oQ,m]) (by rw [aO,oQ];omega)
   rwa [a6i r] at this
  have hcm: ∀x:K,oK 2 [x.1,va.1,vb.1,vc.1]=some (cmK 2 [x,va,vb,vc]).1:=fun x=>XT (kind:=2) (v:=[x,va,vb,vc]) (.inr rfl) rfl
  rw [fk rfl,hea,obs,hcm,obs,HB]
  by_cases z2:cmK 2 [eaK ((drL (vx1 s t p root src) s.Rows.toNat).map toK) (vg1 s t p root G src).2.1 1,va,vb,vc]=(vg1 s t p root G src).2.2.1
  ·have u:=MC f3 om (n:=3) om
   rw [show ((3:Nat):Int)=3 from rfl,c6Z f3 om] at u
   have hab:l0 (vg1 s t p root G src).2.2.2 [va.1,vb.1,vc.1]=some (vx3 s t p root G va vb vc src):=QH (g:=[va,vb,vc]) (YW h q).1 (by simp)
   have w:lU 1 (vr (vx3 s t p root G va vb vc src) 0*va+(vr (vx3 s t p root G va vb vc src) 1*vb+vr (vx3 s t p root G va vb vc src) 2*vc)).1 (kvv W) (W.length:Int) (drS (vx3 s t p root G va vb vc src) 3)=_:=Ny (kind:=1) (.inl rfl) (R:=W) f4 (by have:=q.wl;omega)
   rw [show vfM 1 bv0 W 0 (vr (vx3 s t p root G va vb vc src) 0*va+(vr (vx3 s t p root G va vb vc src) 1*vb+vr (vx3 s t p root G va vb vc src) 2*vc)) (drS (vx3 s t p root G va vb vc src) 3)=vg2 s t p root G W va vb vc src from rfl,q.wl,show (s.Cols.toNat:Int)=s.Cols by omega] at w
   have k0: ∀a b c:K,atL (kv [a,b,c]) 0=some a.1:=fun _ _ _=>rfl
   have k1: ∀a b c:K,atL (kv [a,b,c]) 1=some b.1:=fun _ _ _=>rfl
   have k2: ∀a b c:K,atL (kv [a,b,c]) 2=some c.1:=fun _ _ _=>rfl
   have e: ∀a b:K,dD a.1 b.1=some (a*b).1:=fun a b=>fB a.2 b.2
   have ha: ∀a b:K,iS a.1 b.1=some (a+b).1:=fun a b=>lO a.2 b.2
   rw [ae z2,aa (gz z2),hab,obs,u,obs]
   dsimp only
   rw [k0,obs,e,obs,k1,obs,e,obs,k2,obs,e,obs,ha,obs,ha,obs,w,obs]
   by_cases f:(vg2 s t p root G W va vb vc src).1=0
   ·have hl2:=a7P q f
    have htk:((vg2 s t p root G W va vb vc src).2.1.take (s.Cols.toNat-1)).length=s.Cols.toNat-1:=by rw [bc];omega
    have hat:=wE (l:=(vg2 s t p root G W va vb vc src).2.1) (j:=s.Cols.toNat-1) om
    rw [show ((s.Cols.toNat-1:Nat):Int)=s.Cols-1 by omega] at hat
    rw [ae f,aa (gz f)]
    dsimp only
    have hbt:=UN h.sy (p:=(vg1 s t p root G src).2.1) (R:=eqK (vg1 s t p root G src).2.1) (x:=vr (vx3 s t p root G va vb vc src) 0) (y:=vr (vx3 s t p root G va vb vc src) 1) (z:=vr (vx3 s t p root G va vb vc src) 2) m (Pt _)
    have hbl:=a7g s (eqK (vg1 s t p root G src).2.1) (vr (vx3 s t p root G va vb vc src) 0) (vr (vx3 s t p root G va vb vc src) 1) (vr (vx3 s t p root G va vb vc src) 2)
    have hpw:=wm s.Cols.toNat om
    have hdt:Ds (kv (btM s (eqK (vg1 s t p root G src).2.1) (vr (vx3 s t p root G va vb vc src) 0) (vr (vx3 s t p root G va vb vc src) 1) (vr (vx3 s t p root G va vb vc src) 2))) (kv (vg2 s t p root G W va vb vc src).2.1)=some (UL (btM s (eqK (vg1 s t p root G src).2.1) (vr (vx3 s t p root G va vb vc src) 0) (vr (vx3 s t p root G va vb vc src) 1) (vr (vx3 s t p root G va vb vc src) 2)) (eqK (vg2 s t p root G W va vb vc src).2.1)).1:=by
     rw [a6S (FE _) (FE _) (by rw [cg];omega) (by rw [cg,cg,hl2];omega),Pt,a61]
    have hls: ∀a:K,oL a.1=some (1-a).1:=fun a=>Hf a.2
    rw [fk rfl,ak (s.Cols-1) om om,ma om om (by rw [cg];omega),obs,hat,obs,hls,obs,show (Int.toNat 0)=0 from rfl,fP,show (s.Cols-1).toNat-0=s.Cols.toNat-1 by omega,a7n,
     a0y h.sy om h.pf (FE _) (by rw [cg];omega),obs, <-a36,e,obs,e,obs,ha,obs,hbt,obs,hdt,obs,e,obs,c52, <-Wm,HB]
    by_cases z4:a7B s p (vg1 s t p root G src).2.1 (vg2 s t p root G W va vb vc src).2.1 (vr (vx3 s t p root G va vb vc src) 0) (vr (vx3 s t p root G va vb vc src) 1) (vr (vx3 s t p root G va vb vc src) 2) vw=(vg2 s t p root G W va vb vc src).2.2.1
    ·obtain ⟨src',hck,_⟩:=a5M (s:=rsM (vg2 s t p root G W va vb vc src).2.2.2 [vw]) (root:=root) (cl:=vw) (P:=(vg2 s t p root G W va vb vc src).2.1.take (s.Cols.toNat-1)) (nq:=t.Queries.toNat) (ρ:=t.Rate.toNat) (bits:=t.Grind.toNat) q.op htk om om om ((Few.take f5 _).mono om:Few (rsM (vg2 s t p root G W va vb vc src).2.2.2 [vw]) 999842) om
     rw [show ((s.Cols.toNat-1:Nat):Int)=s.Cols-1 by omega] at hck
     have hab2:l0 (vg2 s t p root G W va vb vc src).2.2.2 [vw.1]=some (rsM (vg2 s t p root G W va vb vc src).2.2.2 [vw]):=QH (g:=[vw]) f5.1 (by simp)
     rw [ae z4,aa (gz z4),hab2,obs,hck,obs]
    ·rw [aa z4,ae z4]
   ·rw [aa f,ae f]
    dsimp only
    rw [brb f]
  ·rw [aa z2,ae z2]
 ·rw [aa d,ae d]
  dsimp only
  rw [brb d]
end
section
def C8 (op:Int):Int:=if 4<=op/\op<=7 then 2 else if op=8 then 1 else 0
theorem b0D (op:Int):Bv op=some (C8 op):=by
 unfold Bv C8
 rw [Wh,obs]
 by_cases a:4<=op/\op<=7
 ·rw [al a,ae a];rfl
 ·rw [ag a,aa a,ba]
  by_cases b:op=8
  ·rw [bre b,ae b]
  ·rw [kO b,aa b]
def fU (l:List Gate) (op:Int):Nat:=l.countP fun g=>g.Op==op
theorem xM (l:List Gate) (x:Gate) (op:Int):fU (l++[x]) op=fU l op+(if (x.Op==op)=true then 1 else 0):=by
 simp only [fU,List.countP_append,List.countP_singleton]
theorem Ar (l:List Gate) (op:Int):fU l op<=l.length:=oZ
theorem b5v (b:Bool):Kd b=some (if b=true then 1 else 0):=by cases b<;>rfl
theorem JX {c:Circuit} {op:Int} (h:c.Gates.length<=1048576):qJ c op=some (fU c.Gates op:Int):=by
 unfold qJ
 have key:=bu (step:=lv op c.Gates) (fun j=>((fU (c.Gates.take j) op:Int),(j:Int))) c.Gates.length (e:=((fU c.Gates op:Int),(c.Gates.length:Int),false)) (fun j b=> ?_) ?_
 ·rw [show ((0:Int),(0:Int))=((fU (c.Gates.take 0) op:Int),((0:Nat):Int)) from rfl,key];rfl
 ·have a:=Ar (c.Gates.take j) op
  rw [bc] at a
  simp only [lv]
  rw [brd om,ck b,obs,b5v,obs,db b,xM]
  cases d:(c.Gates[j].Op==op)
  ·rw [aa (by simp),aa (by simp),ak _ om om,ak _ om om];simp
  ·rw [ae rfl,ae rfl,ak _ om om,ak _ om om];simp
 ·simp only [lv]
  rw [brn om,ag om,bk]
def rP (g:Gate) (k:Int):Bool:=
 decide (1<=g.Op/\g.Op<=8)&&(br (decide (C8 g.Op>0)) (decide (0<=g.A/\g.A<=k-1)) (g.A==0)&&(br (decide (C8 g.Op>1)) (decide (0<=g.B/\g.B<=k-1)) (g.B==0)&&br (g.Op==3) (Gw g.K) (g.K==0)))
theorem VH {g:Gate} {k:Int} (h0:0<=k) (e:k<=1048576):BB g k=some (rP g k):=by
 have c:C8 g.Op=0\/C8 g.Op=1\/C8 g.Op=2:=by
  unfold C8
  split
  ·simp
  ·split<;>simp
 unfold BB rP
 simp only [Wh,wM,b0D,obs,bne]
 rw [ak (k-1) om om]
 generalize C8 g.Op=u at c ⊢
 generalize decide (0<=g.A/\g.A<=k-1)=a
 generalize decide (0<=g.B/\g.B<=k-1)=b
 generalize decide (1<=g.Op/\g.Op<=8)=o
 generalize (g.A==0)=za
 generalize (g.B==0)=zb
 generalize (g.Op==3)=d
 generalize (g.K==0)=zk
 rcases c with rfl|rfl|rfl<;>cases o<;>cases a<;>cases b<;>cases za<;>cases zb<;>cases d<;>rfl
def Ch (l:List Gate):Bool:=decide (1<=l.length/\l.length<=15)&&((List.range l.length).all (fun k=>((l[k]?.map fun g=>rP g (k:Int)).getD false))&&decide ((fU l 2:Int)<=7))
structure OkC (l:List Gate):Prop where
 n1:1<=l.length
 n2:l.length<=15
 g: ∀(k:Nat) (h:k<l.length),rP l[k] (k:Int)=true
 p:fU l 2<=7
theorem b58 {l:List Gate} (h:Ch l=true):OkC l:=by
 simp only [Ch,aD,aC,aB,bV] at h
 obtain ⟨⟨b,c⟩,d,e⟩:=h
 exact ⟨b,c,fun k a=>by simpa [a] using d k a,by omega⟩
theorem Ff {c:Circuit} (h:c.Gates.length<=1048576):vH c=some (Ch c.Gates):=by
 unfold vH Ch
 rw [Wh,obs]
 by_cases l:1<=c.Gates.length/\c.Gates.length<=15
 ·rw [al om,al l,aH,ba,aN]
  have key:=Bx (step:=fM c.Gates) (fun k=>(k:Int)) c.Gates.length (fun k=>((c.Gates[k]?.map fun g=>rP g (k:Int)).getD false)) (fun k=> .inl ()) (e:= .inr ((c.Gates.length:Int),false)) (fun k a b=>by
   have d:rP c.Gates[k] (k:Int)=true:=by simpa [a] using b
   simp only [fM]
   rw [brd om,ck a,obs,VH om om,obs,d,aH,ba,ak _ om om];rfl)
   (fun k a b=>by
    have d:rP c.Gates[k] (k:Int)=false:=by simpa [a] using b
    simp only [fM]
    rw [brd om,ck a,obs,VH om om,obs,d,du,cK])
   (by simp only [fM];rw [brn om,ag om])
  rcases key with ⟨f,i⟩|⟨k,a,f,_,i⟩
  ·have e:Loop (fM c.Gates) 0=some (.inr ((c.Gates.length:Int),false)):=i
   have j:(List.range c.Gates.length).all (fun k=>((c.Gates[k]?.map fun g=>rP g (k:Int)).getD false))=true:=aB.2 fun k a=>f k (bV.1 a)
   rw [e,j,obs,ny,JX h,obs,aN]
  ·have e:Loop (fM c.Gates) 0=some (.inl ()):=i
   have j:(List.range c.Gates.length).all (fun k=>((c.Gates[k]?.map fun g=>rP g (k:Int)).getD false))=false:=sN.2 ⟨k,bV.2 a,by rw [f];simp⟩
   rw [e,j,obs,kW,jJ]
 ·rw [ag om,ag l,du,cK,jJ]
def gvM (P I out:List Int) (p i:Nat) (g:Gate):Int:=
 if g.Op=1 then I.getD i 0 else if g.Op=2 then P.getD p 0 else if g.Op=3 then g.K else if g.Op=4 then aF (out.getD g.A.toNat 0) (out.getD g.B.toNat 0)
 else if g.Op=5 then sF (out.getD g.A.toNat 0) (out.getD g.B.toNat 0) else if g.Op=6 then mF (out.getD g.A.toNat 0) (out.getD g.B.toNat 0) else out.getD g.A.toNat 0
def rnM (P I:List Int) (l:List Gate):Nat->List Int
 |0=>[]
 |j+1=>rnM P I l j++[gvM P I (rnM P I l j) (fU (l.take j) 2) (fU (l.take j) 1) (l.getD j ⟨0,0,0,0⟩)]
theorem ZJ {g:Gate} {k:Int} (h:rP g k=true):(1<=g.Op/\g.Op<=8)/\(4<=g.Op->0<=g.A/\g.A<=k-1)/\(4<=g.Op->g.Op<=7->0<=g.B/\g.B<=k-1)/\(g.Op=3->okF g.K):=by
 simp only [rP,aD,aC] at h
 obtain ⟨d,a,b,c⟩:=h
 refine ⟨d,fun h=> ?_,fun h e=> ?_,fun h=> ?_⟩
 ·rw [brd (by
   unfold C8
   split
   ·omega
   ·split<;>omega)] at a
  exact jN a
 ·rw [brd (by unfold C8;rw [ae ⟨h,e⟩];omega)] at b
  exact jN b
 ·rw [bre h] at c
  exact Kr.1 c
theorem Yz {l:List Gate} {j:Nat} {op:Int} (a:j<l.length) (h:l[j].Op=op):fU (l.take j) op<fU l op:=by
 have b:fU (l.take (j+1)) op<=fU l op:=List.Sublist.countP_le (List.take_sublist _ _)
 rw [db a,xM,ae (by simp [h])] at b
 omega
theorem L6 {l:List Int} {k:Nat} (h:k<l.length):atL l (k:Int)=some (l.getD k 0):=by rw [ck h];simp [h]
theorem c0z {l:List Int} {k:Nat} (h:k<l.length):l[k]? =some (l.getD k 0):=by simp [h]
def c8j (v:List Int) (g:Gate):Bool:=br (g.Op==7) (v.getD g.A.toNat 0==v.getD g.B.toNat 0) true&&br (g.Op==8) (decide (v.getD g.A.toNat 0<=1)) true
theorem b2W {l:List Int} {i:Int} (h0:0<=i) (a:i.toNat<l.length):atL l i=some (l.getD i.toNat 0):=by
 have:i=(i.toNat:Int):=by omega
 conv=>lhs;rw [this]
 exact L6 a
end
section
theorem JQ {k:Nat} (h:k<=9223372036854775807):IntKind.wrap .u64 (k:Int)=(k:Int):=by
 simp only [IntKind.wrap,IntKind.bits,IntKind.signed]
 simp
 omega
def lgM (m:Int):Nat:=if m<=2 then 2 else if m<=4 then 3 else if m<=8 then 4 else 5
theorem Pm {p w:Int} {l:List Gate} {k:Nat} (b:k<=50) (c:0<=p) (a:p<=100):
 oP p w l ((k+1:Nat):Int)=if ((2^k:Nat):Int)<mx (p+1) w then some (.inl ((k+2:Nat):Int)) else some (.inr (((k+1:Nat):Int),false)):=by
 have e:IntKind.wrap .i64 (((k+1:Nat):Int)-1)=(k:Int):=by rw [ak _ om om];omega
 have e2:IntKind.wrap .i64 (((k+1:Nat):Int)+1)=((k+2:Nat):Int):=by rw [ak _ om om];omega
 simp only [oP]
 rw [e,e2,JQ om,brd om,Cu om,ak _ om om]
 by_cases h:((2^k:Nat):Int)<mx (p+1) w
 ·rw [brd h,ae h]
 ·rw [brn h,aa h,ag h]
theorem b7U {p w:Int} {l:List Gate} (d:0<=p) (j:p<=7) (n:w<=15):Loop (oP p w l) 2=some ((lgM (mx (p+1) w):Int),false):=by
 have o:mx (p+1) w<=15:=by unfold mx;split<;>omega
 have a:=Pm (p:=p) (w:=w) (l:=l) (k:=1) om d om
 have b:=Pm (p:=p) (w:=w) (l:=l) (k:=2) om d om
 have c:=Pm (p:=p) (w:=w) (l:=l) (k:=3) om d om
 have e:=Pm (p:=p) (w:=w) (l:=l) (k:=4) om d om
 simp only [Nat.reducePow,Nat.reduceAdd] at a b c e
 unfold lgM
 generalize mx (p+1) w=m at*
 by_cases f:m<=2
 ·rw [ae f];rw [aa om] at a;exact bX a
 rw [aa f];rw [ae om] at a
 refine (cf a).trans ?_
 by_cases h:m<=4
 ·rw [ae h];rw [aa om] at b;exact bX b
 rw [aa h];rw [ae om] at b
 refine (cf b).trans ?_
 by_cases i:m<=8
 ·rw [ae i];rw [aa om] at c;exact bX c
 rw [aa i];rw [ae om] at c
 refine (cf c).trans ?_
 rw [aa om] at e;exact bX e
def lgC (l:List Gate):Nat:=lgM (mx ((fU l 2:Int)+1) ((l.length:Int)-(fU l 2:Int)))
theorem a1T {c:Circuit} (ok:OkC c.Gates):Fl c=some (lgC c.Gates:Int):=by
 have a:=ok.n2
 have b:=ok.p
 have d:=Ar c.Gates 2
 unfold Fl
 rw [JX om,obs,ak _ om om,b7U om om om];rfl
theorem b1t (m:Int):2<=lgM m/\lgM m<=5:=by
 unfold lgM
 split
 ·omega
 ·split
  ·omega
  ·split<;>omega
theorem c0D {m:Int} (h:m<=15):m<=((2^(lgM m-1):Nat):Int):=by
 unfold lgM
 split
 ·simpa
 ·split
  ·simpa
  ·split
   ·simpa
   ·simp;omega
def a1x (l:List Gate) (j:Nat):Int:=if (l.getD j ⟨0,0,0,0⟩).Op=2 then (fU (l.take j) 2:Int)+1 else ((2^(lgC l-1):Nat):Int)+((j:Int)-(fU (l.take j) 2:Int))
def iC (l:List Gate) (n:Nat):List Int:=(List.range n).map (a1x l)
theorem GR (l:List Gate) (n:Nat):(iC l n).length=n:=by simp [iC]
theorem RI (l:List Gate) (n:Nat):iC l (n+1)=iC l n++[a1x l n]:=by simp [iC,gJ]
theorem YC {c:Circuit} (ok:OkC c.Gates):Bu c=some (iC c.Gates c.Gates.length,(lgC c.Gates:Int)):=by
 have m:=ok.n2
 have f:=b1t (mx ((fU c.Gates 2:Int)+1) ((c.Gates.length:Int)-(fU c.Gates 2:Int)))
 have i:2<=lgC c.Gates/\lgC c.Gates<=5:=f
 have e:IntKind.wrap .i64 ((lgC c.Gates:Int)-1)=((lgC c.Gates-1:Nat):Int):=by rw [ak _ om om];omega
 have k:=wm (lgC c.Gates-1) om
 unfold Bu
 rw [a1T ok,obs,e,JQ om,brd om,Cu om]
 have key:=bu (step:=mQ (lgC c.Gates:Int) ((2^(lgC c.Gates-1):Nat):Int) c.Gates) (fun j=>(iC c.Gates j,(fU (c.Gates.take j) 2:Int),(j:Int)-(fU (c.Gates.take j) 2:Int),(j:Int))) c.Gates.length (e:=(iC c.Gates c.Gates.length,(fU c.Gates 2:Int),(c.Gates.length:Int)-(fU c.Gates 2:Int),(c.Gates.length:Int),false)) (fun j b=> ?_) ?_
 ·have:((iC c.Gates 0,(fU (c.Gates.take 0) 2:Int),((0:Nat):Int)-(fU (c.Gates.take 0) 2:Int),((0:Nat):Int)):List Int×Int×Int×Int)=([],0,0,0):=rfl
  rw [<-this,key];rfl
 ·have l:c.Gates.getD j ⟨0,0,0,0⟩=c.Gates[j]:=by simp [b]
  have l2:=Ar (c.Gates.take j) 2
  rw [bc] at l2
  have d:=GR c.Gates j
  have a: ∀v:Int,(iC c.Gates j++[v]).length*8<=1099511627776:=fun v=>by rw [ab,d];simp;omega
  simp only [mQ]
  rw [brd om,ck b,obs,db b,xM,RI,a1x,l]
  by_cases h:c.Gates[j].Op=2
  ·rw [bre h,bt (a _),ak _ om om,ak _ om om,ae h,ae (by simp [h])]
   simp;omega
  ·rw [kO h,bt (a _),ak _ om om,ak _ om om,ak _ om om,aa h,aa (by simp [h])]
   simp;omega
 ·simp only [mQ]
  rw [brn om,ag om,bk]
end
section
def enP (row col:Int) (e:au):Bool:=decide (e.Row=row)&&decide (e.Col>col)
def enR (row col v:Int):List au->List au
 |[]=>[⟨row,col,v⟩]
 |e::R=>if enP row col e=true then e::enR row col v R
  else if e.Row=row/\e.Col=col then (if aF e.Value v=0 then R else ⟨row,col,aF e.Value v⟩::R)
  else ⟨row,col,v⟩::e::R
def enM (L:List au) (row col v:Int):List au:=(enR row col v L.reverse).reverse
theorem a73 {row col v:Int} {R:List au}: ∀{T:List au},(∀e∈T,enP row col e=true)->enR row col v (T++R)=T++enR row col v R
 |[],_=>rfl
 |e::T,h=>by
  rw [eO,enR,ae (h e (by simp)),a73 fun x hx=>h x (by simp [hx])];rfl
theorem a3h (row col:Int) (L:List au): ∃A T,L=A++T/\(∀e∈T,enP row col e=true)/\(A=[]\/ ∃B e,A=B++[e]/\enP row col e=false):=by
 refine ⟨(L.reverse.dropWhile (enP row col)).reverse,(L.reverse.takeWhile (enP row col)).reverse, ?_, ?_, ?_⟩
 ·rw [<-fX,List.takeWhile_append_dropWhile,List.reverse_reverse]
 ·intro e a
  rw [List.mem_reverse] at a
  have: ∀(l:List au), ∀e∈l.takeWhile (enP row col),enP row col e=true:=by
   intro l
   induction l with
   |nil=>intro e a;cases a
   |cons x l ih=>
    intro e a
    rw [List.takeWhile_cons] at a
    split at a
    ·rename_i b
     rcases b9.1 a with rfl|a
     ·exact b
     ·exact ih e a
    ·cases a
  exact this _ e a
 ·have: ∀(l:List au),l.dropWhile (enP row col)=[]\/ ∃x r,l.dropWhile (enP row col)=x::r/\enP row col x=false:=by
   intro l
   induction l with
   |nil=>exact .inl rfl
   |cons x l ih=>
    rw [List.dropWhile_cons]
    split
    ·exact ih
    ·rename_i b;exact .inr ⟨x,l,rfl,by simpa using b⟩
  rcases this L.reverse with h|⟨x,r,h,b⟩
  ·exact .inl (by rw [h];rfl)
  ·exact .inr ⟨r.reverse,x,by rw [h,List.reverse_cons],b⟩
theorem M6 {row col v:Int} {A T:List au} (h: ∀e∈T,enP row col e=true):enM (A++T) row col v=enM A row col v++T:=by
 unfold enM
 rw [fX,a73 (fun e a=>h e (by simpa using a)),fX,List.reverse_reverse]
theorem a3l {α:Type} {A B:List α} {n:Int} (h:n=A.length):lr (A++B) 0 n=some A:=by
 subst h
 rw [ma om om (by simp;omega)]
 simp
theorem RS {α:Type} {A B:List α} {n m:Int} (h:n=A.length) (a:m=((A++B).length:Nat)):lr (A++B) n m=some B:=by
 subst h;subst a
 rw [ma om (by simp;omega) om]
 have:((A.length:Int)+(B.length:Int)).toNat-A.length=B.length:=by omega
 simp [this]
theorem b9V {row col v:Int} {A T:List au} (i: ∀e∈T,enP row col e=true) (k:A=[]\/ ∃B e,A=B++[e]/\enP row col e=false) (m:(A++T).length<=1000000):
 Loop (jG (A++T) row col v) (((A++T).length:Nat):Int)=some ((A.length:Int),false):=by
 have b:(A++T).length=A.length+T.length:=ab
 have key:=bu (step:=jG (A++T) row col v) (fun j=>(((A.length+T.length-j:Nat)):Int)) T.length (e:=((A.length:Int),false)) (fun j n=> ?_) ?_
 ·rw [b];simpa using key
 ·have hi:A.length+T.length-j-1<(A++T).length:=by omega
  have c:enP row col (A++T)[A.length+T.length-j-1]=true:=by
   rw [List.getElem_append_right om]
   exact i _ (aZ _)
  simp only [enP,aD,aC] at c
  have e:IntKind.wrap .i64 (((A.length+T.length-j:Nat):Int)-1)=((A.length+T.length-j-1:Nat):Int):=by rw [ak _ om om];omega
  simp only [jG]
  rw [brd om,e,ck hi,obs,bre c.1,obs,brd c.2]
  have l:A.length+T.length-j-1=A.length+T.length-(j+1):=by omega
  rw [l]
 ·simp only [jG]
  rw [show A.length+T.length-T.length=A.length by omega]
  rcases k with rfl|⟨B,x,rfl,a⟩
  ·rw [brn (by simp)]
  ·have e:IntKind.wrap .i64 (((B++[x]).length:Nat)-1:Int)=(B.length:Int):=by
    rw [ak _ om om];simp
   have d:atL (B++[x]++T) (B.length:Int)=some x:=by
    rw [ck (by simp)];simp
   rw [brd (by simp),e,d,obs]
   simp only [enP,hS,bw] at a
   by_cases f:x.Row=row
   ·have h: ¬x.Col>col:=by rcases a with a|a;exact absurd f a;exact a
    rw [bre f,obs,brn h,ag h]
   ·rw [kO f]
theorem U8 {L:List au} {row col v:Int} (b:L.length<=1000000) (n:okF v) (hL: ∀e∈L,okF e.Value):aG L row col v=some (enM L row col v):=by
 obtain ⟨A,T,rfl,j,k⟩:=a3h row col L
 have l:(A++T).length=A.length+T.length:=ab
 unfold aG
 rw [b9V j k b,obs,M6 j]
 dsimp only
 have a: ∀M:List au,M.length<=2000000->M.length*24<=1099511627776:=fun M h=>by omega
 have ins:((lr (A++T) 0 (A.length:Int)).bind fun y=>br (cP (([]++y:List au)).length 24) (br (cP (([]++y)++[au.mk row col v]).length 24) ((lr (A++T) (A.length:Int) (((A++T).length:Nat):Int)).bind fun m=>br (cP ((([]++y)++[au.mk row col v])++m).length 24) (some ((([]++y)++[au.mk row col v])++m)) none) none) none)=some (A++[au.mk row col v]++T):=by
  rw [a3l rfl,obs,bg,bt (a _ om),bt (a _ (by simp;omega)),RS rfl rfl,obs,bt (a _ (by simp;omega))]
 rcases k with rfl|⟨B,x,rfl,o⟩
 ·rw [brn (by simp),ins];rfl
 ·have e:IntKind.wrap .i64 (((B++[x]).length:Nat)-1:Int)=(B.length:Int):=by
   rw [ak _ om om];simp
  have i:atL (B++[x]++T) (B.length:Int)=some x:=by
   rw [ck (by simp)];simp
  rw [brd (by simp),e,i,obs]
  have p:enM (B++[x]) row col v=if x.Row=row/\x.Col=col then (if aF x.Value v=0 then B else B++[⟨row,col,aF x.Value v⟩]) else B++[x]++[⟨row,col,v⟩]:=by
   unfold enM
   rw [fX,nU,aU,enR,aa (by rw [o];simp)]
   split
   ·split<;>simp
   ·simp
  rw [p]
  by_cases c:x.Row=row
  ·rw [bre c,obs]
   by_cases d:x.Col=col
   ·have q:lr (B++[x]++T) 0 (B.length:Int)=some B:=by rw [aV];exact a3l rfl
    rw [bre d,obs,F7 (hL x (by simp)) n,obs,q,obs,bg,bt (a _ (by simp at b;omega)),ae ⟨c,d⟩]
    by_cases f:aF x.Value v=0
    ·rw [fk f,ae f,RS rfl rfl,obs,bt (a _ (by simp at b ⊢;omega))]
    ·rw [brb f,aa f,bt (a _ (by simp at b ⊢;omega)),RS rfl rfl,obs,bt (a _ (by simp at b ⊢;omega))]
   ·rw [kO d,ins,aa (fun h=>d h.2)]
  ·rw [kO c,ins,aa (fun h=>c h.1)]
end
section
end
section
structure MkR (l:List au) (row C:Int):Prop where
 ent: ∀x∈l,0<=x.Row/\x.Row<=row/\0<=x.Col/\x.Col<=C-1/\1<=x.Value/\x.Value<=2130706432
 srt:l.Pairwise ltE
theorem MkR.nil (row C:Int):MkR [] row C:=⟨fun x a=>(by cases a),List.Pairwise.nil⟩
theorem MkR.up {l:List au} {row C r:Int} (h:MkR l row C) (e:row<=r):MkR l r C:=
 ⟨fun x d=>by obtain ⟨a,b,c⟩:=h.ent x d;exact ⟨a,by omega,c⟩,h.srt⟩
theorem MkR.okF {l:List au} {row C:Int} (h:MkR l row C): ∀e∈l,Fn.okF e.Value:=fun e c=>by
 obtain ⟨_,_,_,_,a,b⟩:=h.ent e c
 exact ⟨by omega,by omega⟩
theorem Yl {A T:List au} {n:au} {row C:Int} (h:MkR (A++T) row C) (hn:n.Row=row) (h0:0<=row) (hc:0<=n.Col/\n.Col<=C-1) (e:1<=n.Value/\n.Value<=2130706432) (i: ∀a∈A,ltE a n) (j: ∀b∈T,ltE n b):MkR (A++[n]++T) row C:=by
 obtain ⟨k,p2,p3⟩:=fI.1 h.srt
 refine ⟨fun x c=> ?_, ?_⟩
 ·simp only [aX,dV] at c
  rcases c with (c|rfl)|c
  ·exact h.ent x (by simp [c])
  ·exact ⟨by omega,by omega,hc.1,hc.2,e.1,e.2⟩
  ·exact h.ent x (by simp [c])
 ·rw [aV,fI]
  refine ⟨k, ?_,fun a f b d=> ?_⟩
  ·rw [aU,gw];exact ⟨j,p2⟩
  ·rw [aU,b9] at d
   rcases d with rfl|d
   ·exact i a f
   ·exact p3 a f b d
theorem MkR.sub {l l':List au} {row C:Int} (h:MkR l row C) (a:List.Sublist l' l):MkR l' row C:=
 ⟨fun x b=>h.ent x (a.subset b),h.srt.sublist a⟩
theorem j2 {l:List au} {row col v C:Int} (h:MkR l row C) (h0:0<=row) (hc:0<=col/\col<=C-1) (j:1<=v/\v<=2130706432):MkR (enM l row col v) row C/\(enM l row col v).length<=l.length+1:=by
 obtain ⟨A,T,rfl,k,q⟩:=a3h row col l
 have d: ∀b∈T,b.Row=row/\b.Col>col:=fun b e=>by simpa [enP] using k b e
 rw [M6 k]
 rcases q with rfl|⟨B,x,rfl,m⟩
 ·refine ⟨Yl (A:=[]) (n:=⟨row,col,v⟩) h rfl h0 hc j (fun a c=>by cases c) (fun b e=> ?_),by simp [enM,enR]⟩
  have:=d b e
  unfold ltE;dsimp only;omega
 ·have r:enM (B++[x]) row col v=if x.Row=row/\x.Col=col then (if aF x.Value v=0 then B else B++[⟨row,col,aF x.Value v⟩]) else B++[x]++[⟨row,col,v⟩]:=by
   unfold enM
   rw [fX,nU,aU,enR,aa (by rw [m];simp)]
   split
   ·split<;>simp
   ·simp
  have s:=h.ent x (by simp)
  obtain ⟨t,p2,p3⟩:=fI.1 h.srt
  obtain ⟨q1,q2,q3⟩:=fI.1 t
  have f: ∀a∈B,ltE a x:=fun a c=>q3 a c x (by simp)
  rw [r]
  split
  ·rename_i u
   have o:MkR (B++T) row C:=h.sub (by simp)
   split
   ·exact ⟨o,by simp;omega⟩
   ·rename_i w
    have p:=c2h x.Value v
    refine ⟨Yl o rfl h0 hc ⟨(by have:=p.1;show 1<=aF x.Value v;omega),p.2⟩ (fun a c=> ?_) (fun b e=> ?_),by simp⟩
    ·have:=f a c
     unfold ltE at*;dsimp only;omega
    ·have:=d b e
     unfold ltE;dsimp only;omega
  ·rename_i u
   have i:ltE x ⟨row,col,v⟩:=by
    simp only [enP,hS,bw] at m
    unfold ltE;dsimp only;omega
   refine ⟨Yl h rfl h0 hc j (fun a c=> ?_) (fun b e=> ?_),by simp;omega⟩
   ·rcases aX.1 c with c|c
    ·exact Wf (f a c) i
    ·rw [dV] at c;subst c;exact i
   ·have:=d b e
    unfold ltE;dsimp only;omega
end
section
def syM (a b c:Int) (g:Gate) (r:Int) (A B C:List au):Int×List au×List au×List au:=
 if g.Op=1\/g.Op=2 then (r,A,B,C)
 else if g.Op=6 then (r+1,enM A r a 1,enM B r b 1,enM C r c 1)
 else if g.Op=4 then (r+1,enM (enM A r a 1) r b 1,enM B r 0 1,enM C r c 1)
 else if g.Op=5 then (r+1,enM (enM A r a 1) r b 2130706432,enM B r 0 1,enM C r c 1)
 else if g.Op=3 then (r+1,if g.K>0 then enM A r 0 g.K else A,enM B r 0 1,enM C r c 1)
 else if g.Op=7 then (r+1+1,enM (enM A r b 1) (r+1) a 1,enM (enM B r 0 1) (r+1) 0 1,enM (enM C r c 1) (r+1) c 1)
 else (r+1+1,enM (enM A r a 1) (r+1) a 1,enM (enM B r a 1) (r+1) 0 1,enM (enM C r c 1) (r+1) c 1)
theorem vE {L:List au} {row col v C:Int} (h:MkR L row C) (b:L.length<=1000) (a:1<=v/\v<=2130706432):aG L row col v=some (enM L row col v):=
 U8 om ⟨by omega,a.2⟩ h.okF
theorem b7E {t:List Int} {l:List Gate} {c2 c3 c4 c5 c6 c7 r CC:Int} {k:Nat} {A B C:List au} (ok:OkC l) (m:k<l.length) (z:t.length=l.length) (b:0<=r) (q:r<=100)
 (hC:1<=CC) (hc: ∀i,i<l.length->0<=t.getD i 0/\t.getD i 0<=CC-1) (mA:MkR A r CC) (mB:MkR B r CC) (mC:MkR C r CC) (lA:A.length<=900) (lB:B.length<=900) (lC:C.length<=900):
 gS t l c2 c3 c4 c5 c6 c7 (r,(k:Int),A,B,C)=
  (fun S:Int×List au×List au×List au=>some (.inl (S.1,((k+1:Nat):Int),S.2.1,S.2.2.1,S.2.2.2))) (syM (t.getD l[k].A.toNat 0) (t.getD l[k].B.toNat 0) (t.getD k 0) l[k] r A B C):=by
 have hn:=ok.n2
 obtain ⟨g1,s,u,w⟩:=ZJ (ok.g k m)
 have n:=hc k m
 simp only [gS]
 rw [brd om,ck m,obs]
 generalize l[k]=g at*
 have ek:IntKind.wrap .i64 ((k:Int)+1)=((k+1:Nat):Int):=by rw [ak _ om om];omega
 have er:IntKind.wrap .i64 (r+1)=r+1:=ak _ om om
 have er2:IntKind.wrap .i64 (r+1+1)=r+1+1:=ak _ om om
 have one:(1:Int)<=1/\(1:Int)<=2130706432:=⟨by omega,by omega⟩
 have big:(1:Int)<=2130706432/\(2130706432:Int)<=2130706432:=⟨by omega,by omega⟩
 have x:(0:Int)<=0/\(0:Int)<=CC-1:=⟨by omega,by omega⟩
 have o:atL t (k:Int)=some (t.getD k 0):=L6 om
 rw [ek,er,er2,o]
 simp only [obs]
 have p:g.Op=1\/g.Op=2\/g.Op=3\/g.Op=4\/g.Op=5\/g.Op=6\/g.Op=7\/g.Op=8:=by omega
 have d:4<=g.Op->atL t g.A=some (t.getD g.A.toNat 0)/\0<=t.getD g.A.toNat 0/\t.getD g.A.toNat 0<=CC-1:=fun h=>by
  have:=s h
  exact ⟨b2W this.1 om,hc _ om⟩
 have e:4<=g.Op->g.Op<=7->atL t g.B=some (t.getD g.B.toNat 0)/\0<=t.getD g.B.toNat 0/\t.getD g.B.toNat 0<=CC-1:=fun h y=>by
  have:=u h y
  exact ⟨b2W this.1 om,hc _ om⟩
 have dB:=vE (col:=0) mB om one
 have dC:=vE (col:=t.getD k 0) mC om one
 have nB:=j2 mB b x one
 have nC:=j2 mC b n one
 have dB2:=vE (col:=0) (nB.1.up (r:=r+1) om) om one
 have dC2:=vE (col:=t.getD k 0) (nC.1.up (r:=r+1) om) om one
 rcases p with h|h|h|h|h|h|h|h
 ·simp [syM,h,br]
 ·simp [syM,h,br]
 ·by_cases f:g.K>0
  ·have dA:=vE (col:=0) (v:=g.K) mA om ⟨by omega,(w h).2⟩
   simp only [syM,h,al f,dA,dB,dC,obs,ae f];rfl
  ·simp only [syM,h,ag f,dB,dC,obs,aa f];rfl
 ·obtain ⟨a,a2⟩:=d om
  obtain ⟨c,j⟩:=e om om
  have dA:=vE (col:=t.getD g.A.toNat 0) mA om one
  have nA:=j2 mA b a2 one
  have dA2:=vE (col:=t.getD g.B.toNat 0) nA.1 om one
  simp only [syM,h,a,c,dA,dA2,dB,dC,obs];rfl
 ·obtain ⟨a,a2⟩:=d om
  obtain ⟨c,j⟩:=e om om
  have dA:=vE (col:=t.getD g.A.toNat 0) mA om one
  have nA:=j2 mA b a2 one
  have dA2:=vE (col:=t.getD g.B.toNat 0) nA.1 om big
  simp only [syM,h,a,c,dA,dA2,dB,dC,obs];rfl
 ·obtain ⟨a,a2⟩:=d om
  obtain ⟨c,j⟩:=e om om
  have dA:=vE (col:=t.getD g.A.toNat 0) mA om one
  have dBb:=vE (col:=t.getD g.B.toNat 0) mB om one
  simp only [syM,h,a,c,dA,dBb,dC,obs];rfl
 ·obtain ⟨a,a2⟩:=d om
  obtain ⟨c,j⟩:=e om om
  have dA:=vE (col:=t.getD g.B.toNat 0) mA om one
  have nA:=j2 mA b j one
  have dA2:=vE (col:=t.getD g.A.toNat 0) (nA.1.up (r:=r+1) om) om one
  simp only [syM,h,a,c,dA,dA2,dB,dB2,dC,dC2,obs];rfl
 ·obtain ⟨a,a2⟩:=d om
  have dA:=vE (col:=t.getD g.A.toNat 0) mA om one
  have nA:=j2 mA b a2 one
  have dA2:=vE (col:=t.getD g.A.toNat 0) (nA.1.up (r:=r+1) om) om one
  have dBa:=vE (col:=t.getD g.A.toNat 0) mB om one
  have nBa:=j2 mB b a2 one
  have dBa2:=vE (col:=0) (nBa.1.up (r:=r+1) om) om one
  simp only [syM,h,a,dA,dA2,dBa,dBa2,dC,dC2,obs];rfl
end
section
structure Mk3 (r:Int) (A B C:List au) (CC:Int) (n:Nat):Prop where
 a:MkR A (r-1) CC
 b:MkR B (r-1) CC
 c:MkR C (r-1) CC
 la:A.length<=n
 lb:B.length<=n
 lc:C.length<=n
theorem Mk3.of {r' r:Int} {A B C:List au} {CC:Int} {n m:Nat} (e:r'-1=r) (a:MkR A r CC) (b:MkR B r CC) (c:MkR C r CC) (la:A.length<=n) (lb:B.length<=n) (lc:C.length<=n) (h:n<=m):Mk3 r' A B C CC m:=by
 subst e;exact ⟨a,b,c,by omega,by omega,by omega⟩
theorem c7d {a b c r CC:Int} {g:Gate} {A B C:List au} {n:Nat} (d:0<=r) (u:1<=CC) (e:4<=g.Op->0<=a/\a<=CC-1) (f:4<=g.Op->g.Op<=7->0<=b/\b<=CC-1) (hc:0<=c/\c<=CC-1) (s:g.Op=3->okF g.K)
 (t:1<=g.Op/\g.Op<=8) (m:Mk3 r A B C CC n):
 Mk3 (syM a b c g r A B C).1 (syM a b c g r A B C).2.1 (syM a b c g r A B C).2.2.1 (syM a b c g r A B C).2.2.2 CC (n+2)/\r<=(syM a b c g r A B C).1/\(syM a b c g r A B C).1<=r+2:=by
 have one:(1:Int)<=1/\(1:Int)<=2130706432:=⟨by omega,by omega⟩
 have big:(1:Int)<=2130706432/\(2130706432:Int)<=2130706432:=⟨by omega,by omega⟩
 have h:(0:Int)<=0/\(0:Int)<=CC-1:=⟨by omega,by omega⟩
 have mA:=m.a.up (r:=r) om
 have mB:=m.b.up (r:=r) om
 have mC:=m.c.up (r:=r) om
 have la:=m.la
 have lb:=m.lb
 have lc:=m.lc
 have nB:=j2 mB d h one
 have nC:=j2 mC d hc one
 have nB2:=j2 (nB.1.up (r:=r+1) om) om h one
 have nC2:=j2 (nC.1.up (r:=r+1) om) om hc one
 unfold syM
 by_cases j:g.Op=1\/g.Op=2
 ·rw [ae j];exact ⟨⟨m.a,m.b,m.c,by dsimp only;omega,by dsimp only;omega,by dsimp only;omega⟩,by dsimp only;omega,by dsimp only;omega⟩
 rw [aa j]
 by_cases k:g.Op=6
 ·have nA:=j2 mA d (e om) one
  have nb:=j2 mB d (f om om) one
  rw [ae k];exact ⟨Mk3.of (n:=n+1) (by dsimp only;omega) nA.1 nb.1 nC.1 (by dsimp only;omega) (by dsimp only;omega) (by dsimp only;omega) om,by dsimp only;omega,by dsimp only;omega⟩
 rw [aa k]
 by_cases l:g.Op=4
 ·have nA:=j2 mA d (e om) one
  have nA2:=j2 nA.1 d (f om om) one
  rw [ae l];exact ⟨Mk3.of (n:=n+2) (by dsimp only;omega) nA2.1 nB.1 nC.1 (by dsimp only;omega) (by dsimp only;omega) (by dsimp only;omega) om,by dsimp only;omega,by dsimp only;omega⟩
 rw [aa l]
 by_cases o:g.Op=5
 ·have nA:=j2 mA d (e om) one
  have nA2:=j2 nA.1 d (f om om) big
  rw [ae o];exact ⟨Mk3.of (n:=n+2) (by dsimp only;omega) nA2.1 nB.1 nC.1 (by dsimp only;omega) (by dsimp only;omega) (by dsimp only;omega) om,by dsimp only;omega,by dsimp only;omega⟩
 rw [aa o]
 by_cases i:g.Op=3
 ·rw [ae i]
  by_cases p:g.K>0
  ·have nA:=j2 mA d h (v:=g.K) ⟨by omega,(s i).2⟩
   rw [ae p];exact ⟨Mk3.of (n:=n+1) (by dsimp only;omega) nA.1 nB.1 nC.1 (by dsimp only;omega) (by dsimp only;omega) (by dsimp only;omega) om,by dsimp only;omega,by dsimp only;omega⟩
  ·rw [aa p];exact ⟨Mk3.of (n:=n+1) (by dsimp only;omega) mA nB.1 nC.1 (by dsimp only;omega) (by dsimp only;omega) (by dsimp only;omega) om,by dsimp only;omega,by dsimp only;omega⟩
 rw [aa i]
 by_cases q:g.Op=7
 ·have nA:=j2 mA d (f om om) one
  have nA2:=j2 (nA.1.up (r:=r+1) om) om (e om) one
  rw [ae q];exact ⟨Mk3.of (n:=n+2) (by dsimp only;omega) nA2.1 nB2.1 nC2.1 (by dsimp only;omega) (by dsimp only;omega) (by dsimp only;omega) om,by dsimp only;omega,by dsimp only;omega⟩
 ·have nA:=j2 mA d (e om) one
  have nA2:=j2 (nA.1.up (r:=r+1) om) om (e om) one
  have nb:=j2 mB d (e om) one
  have nb2:=j2 (nb.1.up (r:=r+1) om) om h one
  rw [aa q];exact ⟨Mk3.of (n:=n+2) (by dsimp only;omega) nA2.1 nb2.1 nC2.1 (by dsimp only;omega) (by dsimp only;omega) (by dsimp only;omega) om,by dsimp only;omega,by dsimp only;omega⟩
end
section
theorem b0K (l:List Gate) (k:Nat) (op:Int):fU l op<=fU (l.take k) op+(l.length-k):=by
 have h:fU l op=fU (l.take k) op+(l.drop k).countP (fun g=>g.Op==op):=by
  conv=>lhs;rw [<-oX k l]
  simp only [fU,List.countP_append]
 have:=oZ (p:=fun g:Gate=>g.Op==op) (l:=l.drop k)
 rw [dR] at this
 omega
theorem ME (l:List Gate):2<=lgC l/\lgC l<=5:=b1t _
theorem a3T {n:Nat} (h:1<=n):((2^n:Nat):Int)=((2^(n-1):Nat):Int)+((2^(n-1):Nat):Int):=by
 obtain ⟨m,rfl⟩: ∃m,n=m+1:=⟨n-1,by omega⟩
 rw [j4,fT];omega
theorem c4G {a b c:Int} (h:mx a b<=c):a<=c/\b<=c:=by
 unfold mx at h
 split at h<;>constructor<;>omega
theorem b2I {l:List Gate} (ok:OkC l):(fU l 2:Int)+1<=((2^(lgC l-1):Nat):Int)/\(l.length:Int)-(fU l 2:Int)<=((2^(lgC l-1):Nat):Int):=by
 have b:=ok.n2
 have c:=ok.p
 have d:=Ar l 2
 have a:mx ((fU l 2:Int)+1) ((l.length:Int)-(fU l 2:Int))<=15:=by unfold mx;split<;>omega
 exact c4G (c0D a)
theorem XM {l:List Gate} (ok:OkC l) {j:Nat} (a:j<l.length):0<=a1x l j/\a1x l j<=((2^lgC l:Nat):Int)-1:=by
 have c:=b2I ok
 have d:=ME l
 have e:=a3T (n:=lgC l) om
 have f:fU (l.take j) 2<=j:=by have:=Ar (l.take j) 2;rw [bc] at this;omega
 unfold a1x
 rw [show l.getD j ⟨0,0,0,0⟩=l[j] by simp [a]]
 split
 ·rename_i h
  have:=Yz a h
  omega
 ·rename_i h
  have b:=b0K l (j+1) 2
  rw [db a,xM,aa (by simpa using h)] at b
  omega
theorem Mo {l:List Gate} {n i:Nat} (hi:i<n):(iC l n).getD i 0=a1x l i:=by
 simp [iC,hi]
def fdM (l:List Gate):Nat->Int×List au×List au×List au
 |0=>(0,[],[],[])
 |j+1=>syM ((iC l l.length).getD (l.getD j ⟨0,0,0,0⟩).A.toNat 0) ((iC l l.length).getD (l.getD j ⟨0,0,0,0⟩).B.toNat 0) ((iC l l.length).getD j 0) (l.getD j ⟨0,0,0,0⟩) (fdM l j).1 (fdM l j).2.1 (fdM l j).2.2.1 (fdM l j).2.2.2
theorem MH {l:List Gate} (ok:OkC l): ∀j,j<=l.length->Mk3 (fdM l j).1 (fdM l j).2.1 (fdM l j).2.2.1 (fdM l j).2.2.2 ((2^lgC l:Nat):Int) (2*j)/\0<=(fdM l j).1/\(fdM l j).1<=2*j
 |0,_=>⟨⟨MkR.nil _ _,MkR.nil _ _,MkR.nil _ _,aw _,aw _,aw _⟩,Int.le_refl _,by simp [fdM]⟩
 |j+1,h=>by
  obtain ⟨m,h0,h1⟩:=MH ok j om
  have hj:j<l.length:=by omega
  have hd:l.getD j ⟨0,0,0,0⟩=l[j]:=by simp [hj]
  obtain ⟨g1,g2,g3,g4⟩:=ZJ (ok.g j hj)
  have hp:=wm (lgC l) (by have:=ME l;omega)
  have hc: ∀a:Int,0<=a/\a<=(j:Int)-1->0<=(iC l l.length).getD a.toNat 0/\(iC l l.length).getD a.toNat 0<=((2^lgC l:Nat):Int)-1:=fun a ha=>by
   rw [Mo om];exact XM ok om
  have hcj:0<=(iC l l.length).getD j 0/\(iC l l.length).getD j 0<=((2^lgC l:Nat):Int)-1:=by
   rw [Mo hj];exact XM ok hj
  have:=c7d (a:=(iC l l.length).getD l[j].A.toNat 0) (b:=(iC l l.length).getD l[j].B.toNat 0) (c:=(iC l l.length).getD j 0) (g:=l[j]) h0 om (fun h=>hc _ (g2 h)) (fun h h7=>hc _ (g3 h h7)) hcj g4 g1 m
  rw [fdM,hd]
  refine ⟨?_,by omega,by omega⟩
  have e:2*(j+1)=2*j+2:=by omega
  rw [e];exact this.1
def rlM (r:Int):Nat:=if r<=2 then 1 else if r<=4 then 2 else if r<=8 then 3 else if r<=16 then 4 else 5
theorem c3k (r:Int):1<=rlM r/\rlM r<=5:=by
 unfold rlM;repeat' split
 all_goals omega
theorem c1B {r:Int} (h:r<=32):r<=((2^rlM r:Nat):Int):=by
 unfold rlM;repeat' split
 all_goals simp<;>omega
def EP (l:List Gate):bi:=⟨(rlM (fdM l l.length).1:Int),(lgC l:Int),(fU l 2:Int),(fdM l l.length).2.1,(fdM l l.length).2.2.1,(fdM l l.length).2.2.2⟩
theorem a2U {r:Int} {step:Int->Option (Int⊕(Bool×Int))} (m:r<=32) (a: ∀k:Nat,1<=k->k<=5->step (k:Int)=if ((2^k:Nat):Int)<r then some (.inl ((k+1:Nat):Int)) else some (.inr (false,(k:Int)))):
 Loop step 1=some (false,(rlM r:Int)):=by
 have b:=a 1 om om
 have c:=a 2 om om
 have d:=a 3 om om
 have e:=a 4 om om
 have f:=a 5 om om
 simp only [Nat.reducePow,Nat.reduceAdd] at b c d e f
 unfold rlM
 by_cases h:r<=2
 ·rw [ae h];rw [aa om] at b;exact bX b
 rw [aa h];rw [ae om] at b
 refine (cf b).trans ?_
 by_cases i:r<=4
 ·rw [ae i];rw [aa om] at c;exact bX c
 rw [aa i];rw [ae om] at c
 refine (cf c).trans ?_
 by_cases j:r<=8
 ·rw [ae j];rw [aa om] at d;exact bX d
 rw [aa j];rw [ae om] at d
 refine (cf d).trans ?_
 by_cases l:r<=16
 ·rw [ae l];rw [aa om] at e;exact bX e
 rw [aa l];rw [ae om] at e
 refine (cf e).trans ?_
 rw [aa om] at f;exact bX f
theorem QK {c:Circuit} (ok:OkC c.Gates):vK c=some (EP c.Gates):=by
 have hn:=ok.n2
 have n:=wm (lgC c.Gates) (by have:=ME c.Gates;omega)
 unfold vK
 rw [YC ok,obs,JX om,obs]
 dsimp only
 have key:=bu (step:=gS (iC c.Gates c.Gates.length) c.Gates 0 0 0 0 (lgC c.Gates:Int) (fU c.Gates 2:Int)) (fun j=>((fdM c.Gates j).1,(j:Int),(fdM c.Gates j).2.1,(fdM c.Gates j).2.2.1,(fdM c.Gates j).2.2.2)) c.Gates.length
  (e:=((fdM c.Gates c.Gates.length).1,(c.Gates.length:Int),false,(fdM c.Gates c.Gates.length).2.1,(fdM c.Gates c.Gates.length).2.2.1,(fdM c.Gates c.Gates.length).2.2.2)) (fun j d=> ?_) ?_
 ·have e0:Loop (gS (iC c.Gates c.Gates.length) c.Gates 0 0 0 0 (lgC c.Gates:Int) (fU c.Gates 2:Int)) (0,0,[],[],[])=_:=key
  rw [e0,obs]
  dsimp only
  have o:=(MH ok c.Gates.length (aw _)).2
  rw [a2U (r:=(fdM c.Gates c.Gates.length).1) om (fun k f p=> ?_),obs]
  ·rfl
  ·simp only [q9]
   have e2:IntKind.wrap .i64 ((k:Int)+1)=((k+1:Nat):Int):=by rw [ak _ om om];omega
   rw [JQ om,brd om,Cu om,e2]
   by_cases h:((2^k:Nat):Int)<(fdM c.Gates c.Gates.length).1
   ·rw [brd h,ae h]
   ·rw [brn h,aa h,ag h]
 ·obtain ⟨m,h0,f⟩:=MH ok j om
  have:=b7E (c2:=0) (c3:=0) (c4:=0) (c5:=0) (c6:=(lgC c.Gates:Int)) (c7:=(fU c.Gates 2:Int)) (r:=(fdM c.Gates j).1) (CC:=((2^lgC c.Gates:Nat):Int)) (A:=(fdM c.Gates j).2.1) (B:=(fdM c.Gates j).2.2.1) (C:=(fdM c.Gates j).2.2.2) ok d (GR c.Gates c.Gates.length) h0 om om
   (fun i hi=>by rw [Mo hi];exact XM ok hi) (m.a.up om) (m.b.up om) (m.c.up om) (by have:=m.la;omega) (by have:=m.lb;omega) (by have:=m.lc;omega)
  have l:c.Gates.getD j ⟨0,0,0,0⟩=c.Gates[j]:=by simp [d]
  rw [this,fdM,l]
 ·simp only [gS]
  rw [brn om,ag om]
end
section
def eT (e:au):Tri:=(e.Row,e.Col,e.Value)
structure Rm (r:Int) (m:List Tri) (L:List au):Prop where
 kd:mH m=true
 lt: ∀t∈m,t.1<r
 eq:L.map eT=fW (m.filter nzT)
theorem Rm.nil (r:Int):Rm r [] []:=⟨rfl,(fun t h=>by cases h),(List.length_eq_zero_iff.1 (m9 []).length_eq).symm⟩
theorem Rm.up {r r':Int} {m:List Tri} {L:List au} (h:Rm r m L) (b:r<=r'):Rm r' m L:=⟨h.kd,fun t a=>by have:=h.lt t a;omega,h.eq⟩
theorem Rm.row {r:Int} {m:List Tri} {L:List au} (h:Rm r m L): ∀e∈L,e.Row<r:=fun e a=>by
 have:eT e∈fW (m.filter nzT):=by rw [<-h.eq];exact bq.2 ⟨e,a,rfl⟩
 have:=(m9 _).mem_iff.1 this
 exact h.lt _ (iY.1 this).1
theorem a81 {x y:Tri} (h:x.1≠y.1):G6 x y=false:=by
 simp only [G6,bw];omega
theorem Rm.app {r:Int} {m N:List Tri} {L E:List au} (h:Rm r m L) (hN: ∀t∈N,t.1=r) (j:mH N=true) (hE:(E.map eT).Perm (N.filter nzT)) (k:(E.map eT).Pairwise (fun x y=>yR y x=false)):Rm (r+1) (m++N) (L++E):=by
 have c:mH (m++N)=true:=by
  refine tl (fI.2 ⟨qK h.kd,qK j,fun a f b i=>a81 ?_⟩)
  have:=h.lt a f;have:=hN b i;omega
 refine ⟨c,fun t d=> ?_, ?_⟩
 ·rcases aX.1 d with d|d
  ·have:=h.lt t d;omega
  ·have:=hN t d;omega
 ·refine DQ (tl ((qK c).filter _)) ?_ ?_
  ·rw [cI,List.filter_append,h.eq]
   exact (m9 _).append hE
  ·rw [cI]
   refine fI.2 ⟨by rw [h.eq];exact Da _,k,fun a f b i=> ?_⟩
   obtain ⟨e,l,rfl⟩:=bq.1 f
   have n:=h.row e l
   have o:=hN b (iY.1 (hE.mem_iff.1 i)).1
   rw [zu]
   simp only [eT]
   omega
theorem FC {r c:Int}: ∀{m:List Tri},(∀t∈m,t.1<r)->i7 r c m=0
 |[],_=>rfl
 | (x,y,v)::m,h=>by
   have h0:=h (x,y,v) (by simp)
   simp only at h0
   rw [i7,aa om];exact FC (fun t a=>h t (by simp [a]))
theorem FG {r c v:Int}: ∀{m:List Tri},(∀t∈m,t.1<r)->iw r c v m=m++[(r,c,v)]
 |[],_=>rfl
 | (x,y,u)::m,h=>by
   have h0:=h (x,y,u) (by simp)
   simp only at h0
   rw [iw,aa om,FG (fun t a=>h t (by simp [a]))];rfl
theorem SA {r c:Int} {N:List Tri}: ∀{m:List Tri},(∀t∈m,t.1<r)->i7 r c (m++N)=i7 r c N
 |[],_=>rfl
 | (x,y,v)::m,h=>by
   have h0:=h (x,y,v) (by simp)
   simp only at h0
   rw [eO,i7,aa om];exact SA (fun t a=>h t (by simp [a]))
theorem a2I {r c v:Int} {N:List Tri}: ∀{m:List Tri},(∀t∈m,t.1<r)->iw r c v (m++N)=m++iw r c v N
 |[],_=>rfl
 | (x,y,u)::m,h=>by
   have h0:=h (x,y,u) (by simp)
   simp only at h0
   rw [eO,iw,aa om,a2I (fun t a=>h t (by simp [a]))];rfl
theorem b7c {v:Int} (h:okF v):aF 0 v=v:=by
 unfold aF okF at*;omega
theorem XG {r c v:Int} {L:List au} (h: ∀e∈L,e.Row<r):enM L r c v=L++[⟨r,c,v⟩]:=by
 unfold enM
 have: ∀R:List au,(∀e∈R,e.Row<r)->enR r c v R=⟨r,c,v⟩::R:=by
  intro R a
  cases R with
  |nil=>rfl
  |cons e R=>
   have:=a e (by simp)
   have b:enP r c e=false:=by
    simp only [enP,hS,bw];omega
   rw [enR,aa (by rw [b];simp),aa om]
 rw [this _ (fun e d=>h e (by simpa using d))]
 simp
theorem b8G {r c1 c2 v1 v2:Int} {L:List au} (h: ∀e∈L,e.Row<r):enM (L++[⟨r,c1,v1⟩]) r c2 v2=
 if c1>c2 then L++[⟨r,c2,v2⟩,⟨r,c1,v1⟩] else if c1=c2 then (if aF v1 v2=0 then L else L++[⟨r,c2,aF v1 v2⟩]) else L++[⟨r,c1,v1⟩,⟨r,c2,v2⟩]:=by
 by_cases b:c1>c2
 ·rw [ae b,M6 (fun e c=>by simp at c;subst c;simp [enP];omega),XG h]
  simp
 ·rw [aa b]
  unfold enM
  rw [fX,nU,aU,enR,aa (by simp [enP];omega)]
  by_cases a:c1=c2
  ·rw [ae ⟨rfl,a⟩,ae a]
   split<;>simp
  ·rw [aa (fun h=>a h.2),aa a]
   simp
theorem c6W {r c v:Int} (h:v≠0):nzT (r,c,v)=true:=by simp [nzT,h]
theorem b55 {r c v:Int} (h:v≠0):([(r,c,v)]:List Tri).filter nzT=[(r,c,v)]:=by rw [kh,ae (c6W h)];rfl
theorem c2f {r c:Int}:([(r,c,0)]:List Tri).filter nzT=[]:=rfl
theorem Rm.one {r c v:Int} {m:List Tri} {L:List au} (h:Rm r m L) (b:v≠0):Rm (r+1) (iw r c v m) (enM L r c v):=by
 rw [FG h.lt,XG h.row]
 refine h.app (fun t a=>by simp at a;subst a;rfl) rfl ?_ ?_
 ·rw [b55 b];exact m2 _
 ·simp
theorem Rm.add1 {r c v:Int} {m:List Tri} {L:List au} (h:Rm r m L) (a:1<=v/\v<=2130706432):Rm (r+1) (iw r c (aF (i7 r c m) v) m) (enM L r c v):=by
 rw [FC h.lt,b7c ⟨by omega,a.2⟩];exact h.one om
theorem Rm.add0 {r c:Int} {m:List Tri} {L:List au} (h:Rm r m L):Rm (r+1) (iw r c (aF (i7 r c m) 0) m) L:=by
 rw [FC h.lt,b7c ⟨by omega,by omega⟩,FG h.lt]
 have:=h.app (N:=[(r,c,0)]) (E:=[]) (fun t a=>by simp at a;subst a;rfl) rfl (by rw [c2f];exact m2 _) (by simp)
 simpa using this
theorem Rm.add2 {r c1 c2 v1 v2:Int} {m:List Tri} {L:List au} (h:Rm r m L) (f:1<=v1/\v1<=2130706432) (i:1<=v2/\v2<=2130706432):
 Rm (r+1) (iw r c2 (aF (i7 r c2 (iw r c1 (aF (i7 r c1 m) v1) m)) v2) (iw r c1 (aF (i7 r c1 m) v1) m)) (enM (enM L r c1 v1) r c2 v2):=by
 rw [FC h.lt,b7c (v:=v1) ⟨by omega,f.2⟩,FG h.lt,SA h.lt,a2I h.lt,XG h.row,b8G h.row]
 by_cases hc:c1=c2
 ·subst hc
  rw [aa om,ae rfl]
  have e1:i7 r c1 [(r,c1,v1)]=v1:=by simp [i7]
  have e2: ∀u,iw r c1 u [(r,c1,v1)]=[(r,c1,u)]:=fun u=>by simp [iw]
  rw [e1,e2]
  by_cases c:aF v1 v2=0
  ·rw [ae c,c]
   have:=h.app (N:=[(r,c1,0)]) (E:=[]) (fun t a=>by simp at a;subst a;rfl) rfl (by rw [c2f];exact m2 _) (by simp)
   simpa using this
  ·rw [aa c]
   refine h.app (fun t a=>by simp at a;subst a;rfl) rfl ?_ ?_
   ·rw [b55 c];exact m2 _
   ·simp
 ·have e1:i7 r c2 [(r,c1,v1)]=0:=by simp [i7];omega
  have e2: ∀u,iw r c2 u [(r,c1,v1)]=[(r,c1,v1),(r,c2,u)]:=fun u=>by
   rw [iw,aa om];rfl
  rw [e1,e2,b7c ⟨by omega,i.2⟩]
  have hN: ∀t∈([(r,c1,v1),(r,c2,v2)]:List Tri),t.1=r:=fun t a=>by simp at a;rcases a with rfl|rfl<;>rfl
  have d:mH [(r,c1,v1),(r,c2,v2)]=true:=by simp [mH,G6];omega
  have e:([(r,c1,v1),(r,c2,v2)]:List Tri).filter nzT=[(r,c1,v1),(r,c2,v2)]:=by
   rw [kh,ae (c6W om),b55 om]
  by_cases b:c1>c2
  ·rw [ae b]
   refine h.app hN d ?_ ?_
   ·rw [e];exact List.Perm.swap _ _ _
   ·simp only [aP,dM,eT,gw,dV,forall_eq,zu]
    refine ⟨by omega,by simp⟩
  ·rw [aa b,aa hc]
   refine h.app hN d ?_ ?_
   ·rw [e];exact m2 _
   ·simp only [aP,dM,eT,gw,dV,forall_eq,zu]
    refine ⟨by omega,by simp⟩
theorem oa (r c v:Int): ∀m:List Tri,(iw r c v m).length<=m.length+1
 |[]=>by simp [iw]
 | (x,y,u)::m=>by
   rw [iw];split
   ·simp
   ·have:=oa r c v m;simp;omega
theorem Xt {r c:Int} {m:List Tri} (h: ∀t∈m,t.1<r):okF (i7 r c m):=by rw [FC h];exact ⟨by omega,by omega⟩
theorem Rm.ent {r:Int} {m:List Tri} {L:List au} (h:Rm r m L) (a:m.length<1073741824):tr m=some (L,m):=by
 unfold tr
 rw [h.kd,aN,brd a, <-h.eq]
 have:(L.map eT).map zK=L:=by
  rw [jm]
  have: ∀e∈L,(zK∘eT) e=e:=fun e _=>rfl
  rw [cC this];simp
 rw [this]
end
section
theorem Nf {g:Gate} {k:Int} (h0:0<=k) (t:k<=1048576):GI g k=some (rP g k):=by
 unfold GI rP
 simp only [a31,xD,obs]
 rw [ak (k-1) om om]
 obtain ⟨op,a,b,c⟩:=g
 dsimp only
 generalize decide (0<=a/\a<=k-1)=x
 generalize decide (0<=b/\b<=k-1)=y
 generalize Gw c=z
 generalize (a==0)=za
 generalize (b==0)=zb
 generalize (c==0)=zc
 have d:op=3\/op=4\/op=5\/op=6\/op=7\/op=8\/(op≠3/\op≠4/\op≠5/\op≠6/\op≠7/\op≠8):=by omega
 rcases d with rfl|rfl|rfl|rfl|rfl|rfl|⟨f,h,i,j,l,e⟩
 ·cases x<;>cases y<;>cases z<;>cases za<;>cases zb<;>cases zc<;>rfl
 ·cases x<;>cases y<;>cases z<;>cases za<;>cases zb<;>cases zc<;>rfl
 ·cases x<;>cases y<;>cases z<;>cases za<;>cases zb<;>cases zc<;>rfl
 ·cases x<;>cases y<;>cases z<;>cases za<;>cases zb<;>cases zc<;>rfl
 ·cases x<;>cases y<;>cases z<;>cases za<;>cases zb<;>cases zc<;>rfl
 ·cases x<;>cases y<;>cases z<;>cases za<;>cases zb<;>cases zc<;>rfl
 ·have m:C8 op=0:=by unfold C8;rw [aa om,aa e]
  have n:(op==3)=false:=by simpa using f
  have p:(op==4)=false:=by simpa using h
  have q:(op==5)=false:=by simpa using i
  have r:(op==6)=false:=by simpa using j
  have s:(op==7)=false:=by simpa using l
  have e8:(op==8)=false:=by simpa using e
  rw [m,n,p,q,r,s,e8]
  generalize decide (1<=op/\op<=8)=o
  cases o<;>cases za<;>cases zb<;>cases zc<;>rfl
theorem QI {c:Circuit} {op:Int} (h:c.Gates.length<=1048576):iB c op=some (fU c.Gates op:Int):=by
 unfold iB
 have key:=bu (step:=fD op c.Gates (c.Gates.length:Int) c.Gates) (fun j=>((fU (c.Gates.take j) op:Int),(j:Int))) c.Gates.length (e:=((fU c.Gates op:Int),(c.Gates.length:Int),false)) (fun j b=> ?_) ?_
 ·rw [show ((0:Int),(0:Int))=((fU (c.Gates.take 0) op:Int),((0:Nat):Int)) from rfl,key];rfl
 ·have a:=Ar (c.Gates.take j) op
  rw [bc] at a
  simp only [fD]
  rw [brd om,ck b,obs,db b,xM]
  cases d:(c.Gates[j].Op==op)
  ·rw [ba,aa (by simp),ak _ om om];simp
  ·rw [cK,ae rfl,ak _ om om,ak _ om om];simp
 ·simp only [fD]
  rw [brn om,ag om,bk]
theorem FX {c:Circuit} (h:c.Gates.length<=1048576):ve c=some (Ch c.Gates):=by
 unfold ve Ch
 rw [a31,obs]
 by_cases l:1<=c.Gates.length/\c.Gates.length<=15
 ·rw [al om,al l,aH,ba,aN]
  have key:=Bx (step:=fJ c.Gates (c.Gates.length:Int) c.Gates) (fun k=>(k:Int)) c.Gates.length (fun k=>((c.Gates[k]?.map fun g=>rP g (k:Int)).getD false)) (fun k=> .inl ((c.Gates.getD k ⟨0,0,0,0⟩).Op,(c.Gates.getD k ⟨0,0,0,0⟩).A,(c.Gates.getD k ⟨0,0,0,0⟩).B,(c.Gates.getD k ⟨0,0,0,0⟩).K)) (e:= .inr ((c.Gates.length:Int),false)) (fun k a b=>by
   have d:rP c.Gates[k] (k:Int)=true:=by simpa [a] using b
   simp only [fJ]
   rw [brd om,ck a,obs,Nf om om,obs,d,aH,ba,ak _ om om];rfl)
   (fun k a b=>by
    have d:rP c.Gates[k] (k:Int)=false:=by simpa [a] using b
    have m:c.Gates.getD k ⟨0,0,0,0⟩=c.Gates[k]:=by simp [a]
    simp only [fJ]
    rw [brd om,ck a,obs,Nf om om,obs,d,du,cK,m])
   (by simp only [fJ];rw [brn om,ag om])
  rcases key with ⟨f,i⟩|⟨k,a,f,_,i⟩
  ·have e:Loop (fJ c.Gates (c.Gates.length:Int) c.Gates) 0=some (.inr ((c.Gates.length:Int),false)):=i
   have j:(List.range c.Gates.length).all (fun k=>((c.Gates[k]?.map fun g=>rP g (k:Int)).getD false))=true:=aB.2 fun k a=>f k (bV.1 a)
   rw [e,j,obs,ny,QI h,obs,aN]
  ·have e:Loop (fJ c.Gates (c.Gates.length:Int) c.Gates) 0=some (.inl _):=i
   have j:(List.range c.Gates.length).all (fun k=>((c.Gates[k]?.map fun g=>rP g (k:Int)).getD false))=false:=sN.2 ⟨k,bV.2 a,by rw [f];simp⟩
   rw [e,j,obs,kW,jJ]
 ·rw [ag om,ag l,du,cK,jJ]
theorem a7q {c v a2 a3 r:Int} {mA mB mC:List Tri} (h0:0<=r) (f:r<=1000) (a:okF (i7 r c mA)) (b:okF v):
 dQ [(c,v)] a2 a3 r mA mB mC=some (r+1,iw r c (aF (i7 r c mA) v) mA,iw r a2 1 mB,iw r a3 1 mC):=by
 unfold dQ
 have d:dn mB mC a2 a3 [(c,v)] (([(c,v)]:List (Int×Int)).length:Int) r (mA,0)=some (.inl (iw r c (aF (i7 r c mA) v) mA,1)):=by
  simp only [dn]
  rw [brd (by simp)]
  show (Option.bind (some (c,v)) _)=_
  rw [obs,yC a b,obs,ak _ om om];rfl
 have e:dn mB mC a2 a3 [(c,v)] (([(c,v)]:List (Int×Int)).length:Int) r (iw r c (aF (i7 r c mA) v) mA,1)=some (.inr (iw r c (aF (i7 r c mA) v) mA,1,false)):=by
  simp only [dn]
  rw [brn (by simp),ag (by simp)]
 rw [cf d,bX e,obs,ak _ om om]
theorem b8j {c1 v1 c2 v2 a2 a3 r:Int} {mA mB mC:List Tri} (h0:0<=r) (j:r<=1000) (e:okF (i7 r c1 mA)) (b:okF v1) (c:okF (i7 r c2 (iw r c1 (aF (i7 r c1 mA) v1) mA))) (d:okF v2):
 dQ [(c1,v1),(c2,v2)] a2 a3 r mA mB mC=some (r+1,iw r c2 (aF (i7 r c2 (iw r c1 (aF (i7 r c1 mA) v1) mA)) v2) (iw r c1 (aF (i7 r c1 mA) v1) mA),iw r a2 1 mB,iw r a3 1 mC):=by
 unfold dQ
 have f:dn mB mC a2 a3 [(c1,v1),(c2,v2)] (([(c1,v1),(c2,v2)]:List (Int×Int)).length:Int) r (mA,0)=some (.inl (iw r c1 (aF (i7 r c1 mA) v1) mA,1)):=by
  simp only [dn]
  rw [brd (by simp)]
  show (Option.bind (some (c1,v1)) _)=_
  rw [obs,yC e b,obs,ak _ om om];rfl
 generalize iw r c1 (aF (i7 r c1 mA) v1) mA=a at*
 have h:dn mB mC a2 a3 [(c1,v1),(c2,v2)] (([(c1,v1),(c2,v2)]:List (Int×Int)).length:Int) r (a,1)=some (.inl (iw r c2 (aF (i7 r c2 a) v2) a,2)):=by
  simp only [dn]
  rw [brd (by simp)]
  show (Option.bind (some (c2,v2)) _)=_
  rw [obs,yC c d,obs,ak _ om om];rfl
 have i:dn mB mC a2 a3 [(c1,v1),(c2,v2)] (([(c1,v1),(c2,v2)]:List (Int×Int)).length:Int) r (iw r c2 (aF (i7 r c2 a) v2) a,2)=some (.inr (iw r c2 (aF (i7 r c2 a) v2) a,2,false)):=by
  simp only [dn]
  rw [brn (by simp),ag (by simp)]
 rw [cf f,cf h,bX i,obs,ak _ om om]
theorem ZV {r c1 c2 u:Int} {m:List Tri} (h: ∀t∈m,t.1<r) (a:okF u):okF (i7 r c2 (iw r c1 u m)):=by
 rw [FG h,SA h]
 by_cases hc:c1=c2
 ·have:i7 r c2 [(r,c1,u)]=u:=by simp [i7,hc]
  rw [this];exact a
 ·have:i7 r c2 [(r,c1,u)]=0:=by simp [i7];exact fun e=>absurd e.symm hc
  rw [this];exact ⟨by omega,by omega⟩
structure R3 (r:Int) (mA mB mC:List Tri) (A B C:List au) (n:Nat):Prop where
 a:Rm r mA A
 b:Rm r mB B
 c:Rm r mC C
 la:mA.length<=n
 lb:mB.length<=n
 lc:mC.length<=n
theorem H3 {c v a2 a3 r:Int} {mA mB mC:List Tri} {A B C:List au} {n:Nat} (h0:0<=r) (e:r<=1000) (d:1<=v/\v<=2130706432) (h:R3 r mA mB mC A B C n):
 ∃mA' mB' mC',dQ [(c,v)] a2 a3 r mA mB mC=some (r+1,mA',mB',mC')/\R3 (r+1) mA' mB' mC' (enM A r c v) (enM B r a2 1) (enM C r a3 1) (n+1):=
 ⟨_,_,_,a7q h0 e (Xt h.a.lt) ⟨by omega,d.2⟩,h.a.add1 d,h.b.one om,h.c.one om,by have:=oa r c (aF (i7 r c mA) v) mA;have:=h.la;omega,by have:=oa r a2 1 mB;have:=h.lb;omega,by have:=oa r a3 1 mC;have:=h.lc;omega⟩
theorem c06 {c a2 a3 r:Int} {mA mB mC:List Tri} {A B C:List au} {n:Nat} (h0:0<=r) (d:r<=1000) (h:R3 r mA mB mC A B C n):
 ∃mA' mB' mC',dQ [(c,0)] a2 a3 r mA mB mC=some (r+1,mA',mB',mC')/\R3 (r+1) mA' mB' mC' A (enM B r a2 1) (enM C r a3 1) (n+1):=
 ⟨_,_,_,a7q h0 d (Xt h.a.lt) ⟨by omega,by omega⟩,h.a.add0,h.b.one om,h.c.one om,by have:=oa r c (aF (i7 r c mA) 0) mA;have:=h.la;omega,by have:=oa r a2 1 mB;have:=h.lb;omega,by have:=oa r a3 1 mC;have:=h.lc;omega⟩
theorem a7O {c1 v1 c2 v2 a2 a3 r:Int} {mA mB mC:List Tri} {A B C:List au} {n:Nat} (h0:0<=r) (f:r<=1000) (d:1<=v1/\v1<=2130706432) (e:1<=v2/\v2<=2130706432) (h:R3 r mA mB mC A B C n):
 ∃mA' mB' mC',dQ [(c1,v1),(c2,v2)] a2 a3 r mA mB mC=some (r+1,mA',mB',mC')/\R3 (r+1) mA' mB' mC' (enM (enM A r c1 v1) r c2 v2) (enM B r a2 1) (enM C r a3 1) (n+2):=
 ⟨_,_,_,b8j h0 f (Xt h.a.lt) ⟨by omega,d.2⟩ (ZV h.a.lt (c2h _ _)) ⟨by omega,e.2⟩,h.a.add2 d e,h.b.one om,h.c.one om,by
   have:=oa r c1 (aF (i7 r c1 mA) v1) mA
   have:=oa r c2 (aF (i7 r c2 (iw r c1 (aF (i7 r c1 mA) v1) mA)) v2) (iw r c1 (aF (i7 r c1 mA) v1) mA)
   have:=h.la;omega,by have:=oa r a2 1 mB;have:=h.lb;omega,by have:=oa r a3 1 mC;have:=h.lc;omega⟩
theorem R3.up {r:Int} {mA mB mC:List Tri} {A B C:List au} {n m:Nat} (h:R3 r mA mB mC A B C n) (hn:n<=m):R3 r mA mB mC A B C m:=⟨h.a,h.b,h.c,by have:=h.la;omega,by have:=h.lb;omega,by have:=h.lc;omega⟩
theorem vX {t:List Int} {p v:Int} (h:0<=p/\p<t.length):dH p v t=some [(t.getD p.toNat 0,v)]:=by
 unfold dH
 obtain ⟨k,rfl⟩: ∃k:Nat,p=k:=⟨p.toNat,by omega⟩
 rw [L6 om,obs,aK]
theorem c1U {t:List Int} {p:Int} (h:0<=p/\p<t.length):atL t p=some (t.getD p.toNat 0):=by
 obtain ⟨k,rfl⟩: ∃k:Nat,p=k:=⟨p.toNat,by omega⟩
 rw [L6 om,aK]
theorem a8M {t:List Int} {g:Gate} {k c r:Int} {mA mB mC:List Tri} {A B C:List au} {n:Nat} (p:rP g k=true) (u:k<t.length) (h0:0<=r) (w:r<=100) (h:R3 r mA mB mC A B C n):
 ∃mA' mB' mC',sv g c t r mA mB mC=some ((syM (t.getD g.A.toNat 0) (t.getD g.B.toNat 0) c g r A B C).1,mA',mB',mC')/\
  R3 (syM (t.getD g.A.toNat 0) (t.getD g.B.toNat 0) c g r A B C).1 mA' mB' mC' (syM (t.getD g.A.toNat 0) (t.getD g.B.toNat 0) c g r A B C).2.1 (syM (t.getD g.A.toNat 0) (t.getD g.B.toNat 0) c g r A B C).2.2.1 (syM (t.getD g.A.toNat 0) (t.getD g.B.toNat 0) c g r A B C).2.2.2 (n+2):=by
 obtain ⟨g1,d,i,q⟩:=ZJ p
 have one:(1:Int)<=1/\(1:Int)<=2130706432:=⟨by omega,by omega⟩
 have big:(1:Int)<=2130706432/\(2130706432:Int)<=2130706432:=⟨by omega,by omega⟩
 unfold sv
 have j:g.Op=1\/g.Op=2\/g.Op=3\/g.Op=4\/g.Op=5\/g.Op=6\/g.Op=7\/g.Op=8:=by omega
 rcases j with e|e|e|e|e|e|e|e
 ·rw [kO om,kO om,kO om,kO om,kO om,kO om]
  simp only [syM,e]
  exact ⟨_,_,_,rfl,h.up om⟩
 ·rw [kO om,kO om,kO om,kO om,kO om,kO om]
  simp only [syM,e]
  exact ⟨_,_,_,rfl,h.up om⟩
 ·have f:=q e
  rw [bre e]
  by_cases o:g.K>0
  ·obtain ⟨x,y,z,e1,e2⟩:=H3 (c:=0) (v:=g.K) (a2:=0) (a3:=c) h0 om ⟨by omega,f.2⟩ h
   rw [e1,obs]
   simp only [syM,e,ae o]
   exact ⟨_,_,_,rfl,e2.up om⟩
  ·have s:g.K=0:=by have:=f.1;omega
   obtain ⟨x,y,z,e1,e2⟩:=c06 (c:=0) (a2:=0) (a3:=c) h0 om h
   rw [s,e1,obs]
   simp only [syM,e,aa o]
   exact ⟨_,_,_,rfl,e2.up om⟩
 ·have a:=d om
  have b:=i om om
  rw [kO om,bre e,vX om,obs,vX om,obs,bt (by simp)]
  obtain ⟨x,y,z,e1,e2⟩:=a7O (c1:=t.getD g.A.toNat 0) (v1:=1) (c2:=t.getD g.B.toNat 0) (v2:=1) (a2:=0) (a3:=c) h0 om one one h
  rw [aU,e1,obs]
  simp only [syM,e]
  exact ⟨_,_,_,rfl,e2⟩
 ·have a:=d om
  have b:=i om om
  rw [kO om,kO om,bre e,vX om,obs,vX om,obs,bt (by simp)]
  obtain ⟨x,y,z,e1,e2⟩:=a7O (c1:=t.getD g.A.toNat 0) (v1:=1) (c2:=t.getD g.B.toNat 0) (v2:=2130706432) (a2:=0) (a3:=c) h0 om one big h
  rw [aU,e1,obs]
  simp only [syM,e]
  exact ⟨_,_,_,rfl,e2⟩
 ·have a:=d om
  have b:=i om om
  rw [kO om,kO om,kO om,bre e,vX om,obs,c1U om,obs]
  obtain ⟨x,y,z,e1,e2⟩:=H3 (c:=t.getD g.A.toNat 0) (v:=1) (a2:=t.getD g.B.toNat 0) (a3:=c) h0 om one h
  rw [e1,obs]
  simp only [syM,e]
  exact ⟨_,_,_,rfl,e2.up om⟩
 ·have a:=d om
  have b:=i om om
  rw [kO om,kO om,kO om,kO om,bre e,vX om,obs]
  obtain ⟨x,y,z,e1,e2⟩:=H3 (c:=t.getD g.B.toNat 0) (v:=1) (a2:=0) (a3:=c) h0 om one h
  obtain ⟨x',y',z',l,m⟩:=H3 (c:=t.getD g.A.toNat 0) (v:=1) (a2:=0) (a3:=c) om om one e2
  rw [e1,obs,vX om,obs,l,obs]
  simp only [syM,e]
  exact ⟨_,_,_,rfl,m⟩
 ·have a:=d om
  rw [kO om,kO om,kO om,kO om,kO om,bre e,vX om,obs,c1U om,obs]
  obtain ⟨x,y,z,e1,e2⟩:=H3 (c:=t.getD g.A.toNat 0) (v:=1) (a2:=t.getD g.A.toNat 0) (a3:=c) h0 om one h
  obtain ⟨x',y',z',l,m⟩:=H3 (c:=t.getD g.A.toNat 0) (v:=1) (a2:=0) (a3:=c) om om one e2
  rw [e1,obs,obs,l,obs]
  simp only [syM,e]
  exact ⟨_,_,_,rfl,m⟩
end
section
theorem a38 {s:bi} {k:Nat} (h:s.Cols=((k+1:Nat):Int)) (a:k<=50):eX s=some ((2^k:Nat):Int):=by
 have e:IntKind.wrap .i64 (((k+1:Nat):Int)-1)=(k:Int):=by rw [ak _ om om];omega
 unfold eX
 rw [h,e,brd om,Cu om]
theorem Kk {p w c2 c3 c4 c5:Int} {l:List Gate} {k:Nat} (a:k<=50) (c:0<=p) (b:p<=100):
 eH w l c2 c3 c4 c5 p ((k+1:Nat):Int)=if ((2^k:Nat):Int)<mx (p+1) w then some (.inl ((k+2:Nat):Int)) else some (.inr (false,((k+1:Nat):Int))):=by
 have e2:IntKind.wrap .i64 (((k+1:Nat):Int)+1)=((k+2:Nat):Int):=by rw [ak _ om om];omega
 simp only [eH]
 rw [a38 (k:=k) rfl a,obs,e2,ak (p+1) om om]
 by_cases h:((2^k:Nat):Int)<mx (p+1) w
 ·rw [brd h,ae h]
 ·rw [brn h,aa h,ag h]
theorem b5E {p w c2 c3 c4 c5:Int} {l:List Gate} (d:0<=p) (j:p<=7) (n:w<=15):Loop (eH w l c2 c3 c4 c5 p) 2=some (false,(lgM (mx (p+1) w):Int)):=by
 have o:mx (p+1) w<=15:=by unfold mx;split<;>omega
 have a:=Kk (p:=p) (w:=w) (l:=l) (c2:=c2) (c3:=c3) (c4:=c4) (c5:=c5) (k:=1) om d om
 have b:=Kk (p:=p) (w:=w) (l:=l) (c2:=c2) (c3:=c3) (c4:=c4) (c5:=c5) (k:=2) om d om
 have c:=Kk (p:=p) (w:=w) (l:=l) (c2:=c2) (c3:=c3) (c4:=c4) (c5:=c5) (k:=3) om d om
 have e:=Kk (p:=p) (w:=w) (l:=l) (c2:=c2) (c3:=c3) (c4:=c4) (c5:=c5) (k:=4) om d om
 simp only [Nat.reducePow,Nat.reduceAdd] at a b c e
 unfold lgM
 generalize mx (p+1) w=m at*
 by_cases f:m<=2
 ·rw [ae f];rw [aa om] at a;exact bX a
 rw [aa f];rw [ae om] at a
 refine (cf a).trans ?_
 by_cases h:m<=4
 ·rw [ae h];rw [aa om] at b;exact bX b
 rw [aa h];rw [ae om] at b
 refine (cf b).trans ?_
 by_cases i:m<=8
 ·rw [ae i];rw [aa om] at c;exact bX c
 rw [aa i];rw [ae om] at c
 refine (cf c).trans ?_
 rw [aa om] at e;exact bX e
theorem a4E {l:List Gate} {c9 c10 c11 c12 c13 c14:Int} (ok:OkC l):Loop (eV l (l.length:Int) l c9 c10 c11 c12 c13 c14) ([],1,((2^(lgC l-1):Nat):Int),0)=
 some (iC l l.length,(fU l 2:Int)+1,((2^(lgC l-1):Nat):Int)+((l.length:Int)-(fU l 2:Int)),(l.length:Int),false):=by
 have k:=ok.n2
 have d:=ME l
 have f:=wm (lgC l-1) om
 have key:=bu (step:=eV l (l.length:Int) l c9 c10 c11 c12 c13 c14) (fun j=>(iC l j,(fU (l.take j) 2:Int)+1,((2^(lgC l-1):Nat):Int)+((j:Int)-(fU (l.take j) 2:Int)),(j:Int))) l.length (e:=(iC l l.length,(fU l 2:Int)+1,((2^(lgC l-1):Nat):Int)+((l.length:Int)-(fU l 2:Int)),(l.length:Int),false)) (fun j b=> ?_) ?_
 ·have:((iC l 0,(fU (l.take 0) 2:Int)+1,((2^(lgC l-1):Nat):Int)+(((0:Nat):Int)-(fU (l.take 0) 2:Int)),((0:Nat):Int)):List Int×Int×Int×Int)=([],1,((2^(lgC l-1):Nat):Int),0):=by simp [iC,fU]
  rw [<-this,key]
 ·have i:l.getD j ⟨0,0,0,0⟩=l[j]:=by simp [b]
  have l2:=Ar (l.take j) 2
  rw [bc] at l2
  have c:=GR l j
  have a: ∀v:Int,(iC l j++[v]).length*8<=1099511627776:=fun v=>by rw [ab,c];simp;omega
  simp only [eV]
  rw [brd om,ck b,obs,db b,xM,RI,a1x,i]
  by_cases h:l[j].Op=2
  ·rw [bre h,bt (a _),ak _ om om,ak _ om om,ae h,ae (by simp [h])]
   simp;omega
  ·rw [kO h,bt (a _),ak _ om om,ak _ om om,aa h,aa (by simp [h])]
   simp;omega
 ·simp only [eV]
  rw [brn om,ag om,bk]
theorem ZW {l:List Gate} {c16 c17 c18 c19 c20 c21:Int} (ok:OkC l): ∃mA mB mC,Loop (fY (iC l l.length) l (l.length:Int) l c16 c17 c18 c19 c20 c21) ([],[],[],0,0)=
 some (mA,mB,mC,(l.length:Int),false,(fdM l l.length).1)/\R3 (fdM l l.length).1 mA mB mC (fdM l l.length).2.1 (fdM l l.length).2.2.1 (fdM l l.length).2.2.2 (2*l.length):=by
 have hn:=ok.n2
 obtain ⟨⟨mA,mB,mC,i,b,r⟩,o,d,f,k,m⟩:=pz (step:=fY (iC l l.length) l (l.length:Int) l c16 c17 c18 c19 c20 c21)
  (fun s=> ∃j:Nat,j<=l.length/\s.2.2.2.1=(j:Int)/\s.2.2.2.2=(fdM l j).1/\R3 (fdM l j).1 s.1 s.2.1 s.2.2.1 (fdM l j).2.1 (fdM l j).2.2.1 (fdM l j).2.2.2 (2*j)) (fun s=>l.length-s.2.2.2.1.toNat)
  (fun e=>e.2.2.2.1=(l.length:Int)/\e.2.2.2.2.1=false/\e.2.2.2.2.2=(fdM l l.length).1/\R3 (fdM l l.length).1 e.1 e.2.1 e.2.2.1 (fdM l l.length).2.1 (fdM l l.length).2.2.1 (fdM l l.length).2.2.2 (2*l.length))
  (fun s=>by
   obtain ⟨mA,mB,mC,i,r⟩:=s
   rintro ⟨j,p,e1,e2,h⟩
   dsimp only at e1 e2 h
   subst e1
   simp only [fY]
   by_cases a:j<l.length
   ·left
    have n:l.getD j ⟨0,0,0,0⟩=l[j]:=by simp [a]
    have w:=GR l l.length
    obtain ⟨_,q,r1⟩:=MH ok j p
    obtain ⟨x,y,z,u,v⟩:=a8M (t:=iC l l.length) (c:=(iC l l.length).getD j 0) (ok.g j a) om q om h
    rw [brd om,ck a,obs,brd om,brd (by rw [aK];omega),aK,c0z om,obs,e2,u,obs,ak _ om om]
    refine ⟨_,rfl,⟨j+1,by omega,by dsimp only;omega,by rw [fdM,n], ?_⟩,by dsimp only;omega⟩
    rw [fdM,n]
    exact v
   ·right
    have:j=l.length:=by omega
    subst this
    rw [brn om,ag om]
    exact ⟨_,rfl,rfl,rfl,e2,h⟩)
  ([],[],[],0,0) ⟨0,by omega,rfl,rfl,⟨Rm.nil _,Rm.nil _,Rm.nil _,by simp,by simp,by simp⟩⟩
 dsimp only at d f k m
 subst d f k
 exact ⟨mA,mB,mC,o,m⟩
theorem a2C {c:Circuit} (ok:OkC c.Gates):lQ c=some (EP c.Gates):=by
 have hn:=ok.n2
 have i:=ok.p
 have j:=Ar c.Gates 2
 have l:=ME c.Gates
 unfold lQ
 have e:Loop (eH ((c.Gates.length:Int)-(fU c.Gates 2:Int)) c.Gates 0 0 0 1 (fU c.Gates 2:Int)) 2=some (false,(lgC c.Gates:Int)):=b5E om om om
 rw [QI om,obs,ak _ om om,e,obs]
 dsimp only
 rw [a38 (k:=lgC c.Gates-1) (by dsimp only;omega) om,obs,a4E ok,obs]
 dsimp only
 obtain ⟨mA,mB,mC,f,d⟩:=ZW (c16:=0) (c17:=0) (c18:=0) (c19:=1) (c20:=(lgC c.Gates:Int)) (c21:=(fU c.Gates 2:Int)) ok
 obtain ⟨_,m,n⟩:=MH ok c.Gates.length (aw _)
 rw [f,obs]
 dsimp only
 rw [a2U (r:=(fdM c.Gates c.Gates.length).1) om (fun k o q=> ?_),obs,d.a.ent (by have:=d.la;omega),obs,d.b.ent (by have:=d.lb;omega),obs,d.c.ent (by have:=d.lc;omega),obs]
 ·rfl
 ·simp only [ke]
  have e2:IntKind.wrap .i64 ((k:Int)+1)=((k+1:Nat):Int):=by rw [ak _ om om];omega
  rw [brd om,Cu om,e2]
  by_cases h:((2^k:Nat):Int)<(fdM c.Gates c.Gates.length).1
  ·rw [brd h,ae h]
  ·rw [brn h,aa h,ag h]
end
section
structure c8u (c:Circuit) (P I:List Int):Prop where
 ok:OkC c.Gates
 hP:Lz P
 hI:Lz I
 lP:P.length=fU c.Gates 2
 lI:I.length=fU c.Gates 1
theorem a3w {l:List Gate} (h:OkC l):Ch l=true:=by
 unfold Ch
 rw [al ⟨h.n1,h.n2⟩,al (by have:=h.p;omega),aN,fx]
 refine aB.2 fun k a=> ?_
 have a:=bV.1 a
 simpa [a] using h.g k a
end
section
def zc (z:List Int) (c:Int):Int:=z.getD c.toNat 0
def rS (z:List Int) (r x:Int) (e:au):Int:=if e.Row=r then aF x (mF e.Value (zc z e.Col)) else x
def rV (z:List Int) (r:Int) (L:List au):Int:=L.foldl (rS z r) 0
structure c8R (z:List Int) (r:Int) (A A':List au) (x:Int):Prop where
 old: ∀k,k<r->rV z k A'=rV z k A
 new:rV z r A'=x
 row: ∀e∈A',e.Row<r+1
structure c8O (r:Int) (A B C:List au):Prop where
 a: ∀e∈A,e.Row<r
 b: ∀e∈B,e.Row<r
 c: ∀e∈C,e.Row<r
end
section
theorem MkR.mat {l:List au} {row R C:Int} (h:MkR l row C) (q:row<=R-1) (c:l.length<=200):uU l R C=true:=by
 refine a4F c fun t=> ?_
 rintro ⟨x,b,a⟩
 have d:x∈l:=an b
 obtain ⟨e,a2,a3,f,i,j⟩:=h.ent x d
 rcases a with a|⟨r,y,k,a⟩
 ·exact a ⟨⟨e,by omega⟩,⟨a3,f⟩,i,j⟩
 ·refine a ?_
  have m:=(dg.1 b)
  have n:=(dg.1 k)
  obtain ⟨o,e1⟩:=m
  obtain ⟨p,e2⟩:=n
  have:=lT.1 h.srt (t-1) t p o om
  rwa [e1,e2] at this
theorem c5E {l:List Gate} (ok:OkC l):sJ (EP l)=true:=by
 obtain ⟨m,e,f⟩:=MH ok l.length (aw _)
 have hn:=ok.n2
 have h:=ME l
 have i:=c3k (fdM l l.length).1
 have j:=c1B (r:=(fdM l l.length).1) om
 have k:=b2I ok
 unfold sJ
 have c1:(EP l).Rows=((rlM (fdM l l.length).1:Nat):Int):=rfl
 have c2:(EP l).Cols=((lgC l:Nat):Int):=rfl
 have c3:(EP l).Publics=((fU l 2:Nat):Int):=rfl
 have d:((lgC l:Nat):Int)-1=((lgC l-1:Nat):Int):=by omega
 rw [c1,c2,c3,d,Cu om,Cu om,Cu om]
 have la:=m.la
 have lb:=m.lb
 have lc:=m.lc
 have mA:uU (EP l).A ((2^rlM (fdM l l.length).1:Nat):Int) ((2^lgC l:Nat):Int)=true:=m.a.mat om (by show (fdM l l.length).2.1.length<=200;omega)
 have mB:uU (EP l).B ((2^rlM (fdM l l.length).1:Nat):Int) ((2^lgC l:Nat):Int)=true:=m.b.mat om (by show (fdM l l.length).2.2.1.length<=200;omega)
 have mC:uU (EP l).C ((2^rlM (fdM l l.length).1:Nat):Int) ((2^lgC l:Nat):Int)=true:=m.c.mat om (by show (fdM l l.length).2.2.2.length<=200;omega)
 rw [mA,mB,mC,al om,al om,al om];rfl
end
set_option maxRecDepth 20000
section
section
variable (s:bi) (t:Setting) (p z:List Int) (src:Source)
end
variable {s:bi} {t:Setting} {p z:List Int} {src:Source} {k:Int}
end
section
variable {s:bi} {t:Setting} {p z:List Int} {src:Source} {k:Int}
end
section
end
set_option maxRecDepth 10000
section
end
section
end
section
structure c8P (l:List Gate) (P I:List Int):Prop where
 rc:c8u ⟨l⟩ P I
 fit:l.all (c8j (rnM P I l l.length))=true
 n9:l.length<=9
 p3:fU l 2<=3
end
set_option maxRecDepth 20000
section
end
section
variable {s:bi} {t:Setting} {p z:List Int} {src:Source} {k:Int}
end
section
theorem a8I {p:Proof} {s:bi} {t:Setting} (h:okP p s t=true):
 ∃(G W:List (List K)) (va vb vc vw:K),p=⟨p.Root,kvv G,va.1,vb.1,vc.1,kvv W,vw.1,p.Open⟩/\WC s t p.Root G W p.Open:=by
 unfold okP Ep at h
 simp only [aD,aC,aB,h32,Ka] at h
 obtain ⟨f,o,i,⟨d,b⟩,j,k,hc,⟨q,c⟩,l,m⟩:=h
 obtain ⟨e,r,_⟩:=m6 f
 have lift: ∀(R:List (List Ext)) (n:Nat),(∀x∈R,vl (n:Int) x=true)->R=kvv (R.map fun g=>g.map toK)/\ ∀g∈(R.map fun g=>g.map toK),g.length=n:=fun R n e=>by
  have a: ∀x∈R,x.length=n/\hG x:=fun x a=>by
   have:=e x a
   simp only [vl,aD,aC] at this
   exact ⟨by omega,b9s.1 this.2⟩
  refine ⟨?_,fun g d=> ?_⟩
  ·rw [kvv,jm]
   conv=>lhs;rw [<-List.map_id R]
   exact cC fun x h=>(a6i (a x h).2).symm
  ·obtain ⟨x,h,rfl⟩:=bq.1 d
   rw [aO];exact (a x h).1
 obtain ⟨eG,lG⟩:=lift p.Gates 4 b
 obtain ⟨eW,lW⟩:=lift p.Wires 3 c
 refine ⟨p.Gates.map fun g=>g.map toK,p.Wires.map fun g=>g.map toK,toK p.VA,toK p.VB,toK p.VC,toK p.VW, ?_,i,by rw [aO];omega,lG,by rw [aO];omega,lW, ?_⟩
 ·rw [<-eG, <-eW,m1 j,m1 k,m1 hc,m1 l]
 ·exact b0H (by rw [show ((s.Cols.toNat-1:Nat):Int)=s.Cols-1 by omega];exact m)
theorem a2q {s:bi} {t:Setting} {p:List Int} {q:Proof} {src:Source} (h:OK s t p src) (b:okP q s t=true):
 ∃c src',jZ s t p q src=some (c,src')/\rv s t p q src=some c:=by
 obtain ⟨G,W,va,vb,vc,vw,e,a⟩:=a8I b
 obtain ⟨src',d⟩:=a1e (va:=va) (vb:=vb) (vc:=vc) (vw:=vw) h a
 rw [e]
 exact ⟨_,_,d,Pw h a⟩
theorem a1K {s:bi} {t:Setting} {p:List Int} {q:Proof} {src:Source} (a:s.A.length<=1048576) (b:s.B.length<=1048576) (d:s.C.length<=1048576) (e:p.length<=1048576) (f:SzP q) (i:src.Script.length<=1048576):
 ∃r,vM s t p q src=some r/\vz s t p q src=some r:=by
 unfold vM vz
 rw [R7 a b d e i,obs]
 by_cases j:p.length>4096
 ·rw [brd om]
  have:stC s t p src=2:=by unfold stC;rw [ae j]
  rw [this,brb om]
  exact ⟨_,rfl,rfl⟩
 rw [brn om,a07 e i,obs]
 by_cases h0:stC s t p src=0
 ·have h:=c3O h0
  have k:=h.fw.1.1
  rw [fk h0,fk h0]
  unfold D8
  rw [WU f a b d,obs,Z2 f,obs]
  cases l:okP q s t with
  |false=>exact ⟨_,rfl,rfl⟩
  |true=>
   obtain ⟨c,src',m,n⟩:=a2q h l
   rw [aH,ba,ba,a0n om,obs,m,n]
   exact ⟨_,rfl,rfl⟩
 ·rw [brb h0,brb h0]
  exact ⟨_,rfl,rfl⟩
theorem TW {a:Source} {left:Int} (b:bdSource a) (h0: -1<=left) (e:left<=1048576): ∃r,yJ a left=some r/\ -1<=r/\r<=1048576/\(0<=r->a.Script.length<=1048576):=by
 obtain ⟨f,_,h,_⟩:=b
 have b1':a.State.length<=9223372036854775807:=h
 obtain ⟨r,i,k,l,j⟩:=Fw f.1 h0 e
 unfold yJ
 rw [i,obs]
 by_cases c:r<0
 ·rw [brd c];exact ⟨_,rfl,by omega,by omega,by omega⟩
 ·rw [brn c,ak _ om om]
  by_cases d:r-(a.State.length:Int)<0
  ·rw [brd d];exact ⟨_,rfl,by omega,by omega,by omega⟩
  ·rw [brn d];exact ⟨_,rfl,by omega,by omega,fun _=>j om⟩
theorem TB {a:Source} (h:a.Script.length<=1048576):qV a=some a:=by
 unfold qV
 rw [Fb h,obs]
theorem Oo {a:Source} (h:a.Script.length<=1048576):yq a a=some true:=by
 unfold yq
 rw [Bd h,obs,aH,ba,fk rfl,QX (by simp),fk rfl]
end
section
variable {s:bi} {t:Setting} {p z:List Int} {src:Source} {k:Int}
end
section
variable {v ρ:Nat} {t P:List K} {s:Source} {k:Int}
end
section
variable {s:bi} {t:Setting} {p z:List Int} {src:Source} {k:Int}
theorem KX {l:List Gate} {P:List Int} {t:Setting} {q:Proof} {src:Source} (ok:OkC l) (a:P.length<=4096):gR ⟨l⟩ t P q src=vM (EP l) t P q src:=by
 have hn:=ok.n2
 unfold gR
 rw [brn om,FX (by show l.length<=_;omega),obs,show Ch (Circuit.mk l).Gates=true from a3w ok,aH,ba,a2C (c:=⟨l⟩) ok,obs]
 show (vM (EP l) t P q src).bind (fun r=>some (r.1,r.2))=_
 cases vM (EP l) t P q src<;>rfl
theorem Kb {l:List Gate} {P:List Int} {t:Setting} {q:Proof} {src:Source} (ok:OkC l) (a:P.length<=4096):gV ⟨l⟩ t P q src=vz (EP l) t P q src:=by
 have hn:=ok.n2
 unfold gV
 rw [brn om,Ff (by show l.length<=_;omega),obs,show Ch (Circuit.mk l).Gates=true from a3w ok,aH,ba,QK (c:=⟨l⟩) ok,obs]
 show (vz (EP l) t P q src).bind (fun r=>some (r.1,r.2))=_
 cases vz (EP l) t P q src<;>rfl
theorem c0N {l:List Gate} (ok:OkC l):(EP l).A.length<=1048576/\(EP l).B.length<=1048576/\(EP l).C.length<=1048576:=by
 obtain ⟨_,_,_,lA,lB,lC⟩:=m6 (c5E ok)
 exact ⟨by omega,by omega,by omega⟩
theorem ZL {c:Circuit} {t:Setting} {p:List Int} {q:Proof} {src:Source} (hc:c.Gates.length<=1048576) (f:p.length<=1048576) (h:SzP q) (i:src.Script.length<=1048576):
 ∃r,gR c t p q src=some r/\gV c t p q src=some r:=by
 obtain ⟨l⟩:=c
 by_cases j:p.length>4096
 ·refine ⟨(false,2), ?_, ?_⟩
  ·unfold gR;rw [brd om]
  ·unfold gV;rw [brd om]
 ·cases e:Ch l with
  |false=>
   refine ⟨(false,19), ?_, ?_⟩
   ·unfold gR;rw [brn om,FX hc,obs,show Ch (Circuit.mk l).Gates=false from e];rfl
   ·unfold gV;rw [brn om,Ff hc,obs,show Ch (Circuit.mk l).Gates=false from e];rfl
  |true=>
   have ok:=b58 e
   obtain ⟨a,b,d⟩:=c0N ok
   rw [KX ok om,Kb ok om]
   exact a1K a b d f h i
end
section
theorem c3e {a:List Gate} {left:Int} (b:a.length<=9223372036854775807) (h0: -1<=left) (d:left<=1048576):
 ∃r,BJ a left=some r/\ -1<=r/\r<=1048576/\(0<=r->a.length<=1048576):=by
 unfold BJ
 rw [ak _ om om]
 by_cases c:left-(a.length:Int)<0
 ·rw [brd c];exact ⟨_,rfl,by omega,by omega,by omega⟩
 ·rw [brn c];exact ⟨_,rfl,by omega,by omega,by omega⟩
theorem c5N {a:Circuit} {left:Int} (c:a.Gates.length<=9223372036854775807) (h0: -1<=left) (d:left<=1048576):
 ∃r,vp a left=some r/\ -1<=r/\r<=1048576/\(0<=r->a.Gates.length<=1048576):=by
 unfold vp
 obtain ⟨b,eb,e,f,h⟩:=c3e c h0 d
 rw [eb,obs]
 by_cases cb:b<0
 ·rw [brd cb];exact ⟨_,rfl,by omega,by omega,by omega⟩
 rw [brn cb]
 exact ⟨_,rfl,e,f,h⟩
theorem c2q {a:List Gate} (r:a.length<=1048576):Bs a=some a:=by
 unfold Bs
 have n:zf (a.length:Int) (a.length:Int) 32=true:=by
  have b:(a.length:Int)*((32:Nat):Int)<=(cX:Int):=by simp only [cX];omega
  unfold zf;rw [al (show (0:Int)<=(a.length:Int) by omega),al (Int.le_refl _),al b];rfl
 rw [G7 n]
 have key:=pz (step:=pL a) (fun s=>0<=s.2/\s.2<=a.length/\s.1.length=a.length/\ ∀k:Nat,(k:Int)<s.2->s.1[k]? =a[k]?) (fun s=>(a.length-s.2).toNat)
  (fun e=>e.1=a) ?_ ((List.replicate ((a.length:Int).toNat) (Gate.mk (0:Int) (0:Int) (0:Int) (0:Int))),(0:Int)) ⟨by simp,by simp,by simp,fun k (d:(k:Int)<0)=>by omega⟩
 ·obtain ⟨e,o,h⟩:=key
  rw [o];simp only [obs,h]
 ·rintro ⟨l,i⟩ ⟨h0,p,j,f⟩
  dsimp only at h0 p j f
  simp only [pL]
  by_cases c:i<(a.length:Int)
  ·obtain ⟨x,rest,e1,e2,m⟩:=ou (l:=a) (i:=i.toNat) om
   obtain ⟨y,rest2,t,u,q⟩:=ou (l:=l) (i:=i.toNat) om
   rw [brd c,GP h0 m]
   simp only [obs,KN]
   rw [brd h0,brd om,q]
   simp only [obs]
   rw [ak (i+1) om om]
   refine .inl ⟨_,rfl,⟨by dsimp only;omega,by dsimp only;omega,by simp [j],fun k d=> ?_⟩,by dsimp only;omega⟩
   dsimp only at d ⊢
   rw [fA]
   by_cases e:i.toNat=k
   ·rw [ae e,ae om, <-e,m]
   ·rw [aa e];exact f k om
  ·rw [brn c]
   refine .inr ⟨_,rfl, ?_⟩
   apply n8
   intro k
   show l[k]? =a[k]?
   by_cases d:k<a.length
   ·exact f k om
   ·rw [bD om,bD om]
theorem c3x {a:List Gate} (f:a.length<=1048576):C6 a a=some true:=by
 unfold C6
 rw [fk rfl]
 have key:=pz (step:=pD a a) (fun t=>0<=t/\t<=a.length) (fun t=>(a.length-t).toNat) (fun e=> ∃p,e= .inr p) ?_ 0 ⟨by omega,by omega⟩
 ·obtain ⟨e,b,p,rfl⟩:=key
  rw [b];rfl
 ·intro t ⟨h0,h⟩
  simp only [pD]
  by_cases c:t<(a.length:Int)
  ·left
   obtain ⟨x,r,e1,e2,d⟩:=ou (l:=a) (i:=t.toNat) om
   rw [brd c,GP h0 d]
   simp only [obs,KR]
   rw [fk rfl,fk rfl,fk rfl,fk rfl]
   simp only [obs,aH,ba]
   rw [ak (t+1) om om]
   exact ⟨_,rfl,⟨by omega,by omega⟩,by omega⟩
  ·right
   rw [brn c]
   exact ⟨_,rfl,_,rfl⟩
theorem c4T {c:Circuit} (h:c.Gates.length<=1048576):vG c c=some true:=by
 unfold vG
 rw [c3x h];rfl
theorem c5C {c:Circuit} (h:c.Gates.length<=1048576):oe c=some c:=by
 unfold oe
 rw [c2q h];rfl
end
section
theorem law_FnExactVerifyCircuit (c:Circuit) (t:Setting) (a:List Int) (p:Proof) (src:Source) (hc:bdCircuit c) (u:bdSetting t) (v:bdL bdI a) (h:bdProof p) (b:bdSource src):j1 c t a p src=some true:=by
 unfold j1
 by_cases c1:(a.length:Int)>1048576
 ·rw [brd c1]
 rw [brn c1]
 obtain ⟨r,e1,i,j,k⟩:=c5N (a:=c) (left:=1048576) hc.1 om om
 rw [e1,obs]
 by_cases c2:r<0
 ·rw [brd c2]
 rw [brn c2]
 obtain ⟨q,e2,q0,q1,l⟩:=YF h i j
 rw [e2,obs]
 by_cases c3:q<0
 ·rw [brd c3]
 rw [brn c3]
 obtain ⟨z,m,z0,w,n⟩:=TW b q0 q1
 rw [m,obs]
 by_cases c4:z<0
 ·rw [brd c4]
 rw [brn c4]
 have d:=k om
 have e:=l om
 have f:=n om
 obtain ⟨x,o,s⟩:=ZL (c:=c) (t:=t) (p:=a) (q:=p) (src:=src) d om e f
 unfold vm
 rw [c5C d,a1X om,Wv e,TB f]
 simp only [obs]
 rw [o,s]
 simp only [obs]
 rw [c4T d,Uc om,PA e,Oo f]
 simp only [obs,aH,ba]
 rw [QX (by simp),fk rfl]
end
end Go.AI.Fn
