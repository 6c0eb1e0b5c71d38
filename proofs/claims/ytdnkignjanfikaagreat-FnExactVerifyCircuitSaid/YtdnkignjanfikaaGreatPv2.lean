/- Proofs of right lengths: program and reference say alike, of all of them. -/
import Derived.Test.YtdnkignjanfikaaGreatPv1
import Derived.Test.YtdnkignjanfikaaGreatPv0
import Derived.Test.YtdnkignjanfikaaGreatAiEntX
set_option linter.unusedVariables false
set_option linter.unusedSimpArgs false
namespace Go.AI.Fn
section
noncomputable def okP (p:Proof) (s:bk) (t:Setting):Bool:=
 tf s&&(setB t&&(h32 p.Root&&(Fc p.Gates s.Rows 4&&(nF p.VA&&(nF p.VB&&(nF p.VC&&(Fc p.Wires s.Cols 3&&(nF p.VW&&okO p.Open (s.Cols-1) t))))))))
theorem c0f {R:List (List Ext)} {size:Int} {X:Type} {x y:X} (hl:R.length<=1048576) (hR: ∀g∈R,g.length<=1048576) {step:Int->Option (Int⊕(Unit⊕(Int×Bool)))} {g:Int×Bool->Option X} (hg: ∀e,g e=some y)
 (hs: ∀t,step t=br (decide (t<((R.length:Nat):Int))) ((atL R t).bind fun x=>br (((x.length:Nat):Int) !=size) (some (.inr (.inl ()))) ((atL R t).bind fun x2=>(lX x2).bind fun r=>br (!r) (some (.inr (.inl ()))) (some (.inl (IntKind.wrap .i64 (t+1)))))) (some (.inr (.inr (t,decide (t<((R.length:Nat):Int))))))):
 (Loop step 0).bind (alt (fun _=>some x) g)=some (if R.all (vZ size)=true then y else x):=by
 rw [<-CP R [] (vZ size)]
 have hm: ∀k,k<R.length->R.getD k []∈R:=fun k hk=>by simp [hk]
 refine CJ R.length _ (fun _=>()) (fun k hk hp=> ?_) (fun k hk hp=> ?_) (e2:=((R.length:Int),false)) ?_ (fun _=>rfl) (hg _)
 ·have:=hR _ (hm k hk)
  simp only [vZ,aC,aG] at hp
  rw [hs,brd om,rd (d:=[]) hk,obs,fq hp.1,obs,o8 om,obs,hp.2,aH,bf,ak _ om om];rfl
 ·have:=hR _ (hm k hk)
  rw [hs,brd om,rd (d:=[]) hk,obs]
  by_cases c:((R.getD k []).length:Int)=size
  ·rw [vZ,al c,aO] at hp
   rw [fq c,obs,o8 om,obs,hp];rfl
  ·rw [brb c]
 ·rw [hs,brn om,ag om]
theorem a1e {p:Proof} {s:bk} {t:Setting} (h:SzP p) (hA:s.A.length<=1048576) (hB:s.B.length<=1048576) (hC:s.C.length<=1048576):C9 p s t=some (okP p s t):=by
 have g1:=h.2.1.1
 have g2:=h.2.2.1.1
 unfold C9 okP
 rw [IU om om om,obs]
 cases hs:tf s
 ·rfl
 ·obtain ⟨hr,hc,_⟩:=mH hs
  rw [cO,zj,obs,A8,yu om (fun g hg=>by have:=h.2.1.2 g hg;omega),yu om (fun g hg=>by have:=h.2.2.1.2 g hg;omega),ak _ om om,Rj h.2.2.2.sm,ub,ub,ub,ub]
  simp only [obs,aO,h32]
  cases setB t<;>cases decide (p.Root.length=32)<;>cases Fc p.Gates s.Rows 4<;>cases nF p.VA<;>cases nF p.VB<;>cases nF p.VC<;>cases Fc p.Wires s.Cols 3<;>cases nF p.VW<;>rfl
theorem a06 {p:Proof} {s:bk} {t:Setting} (h:SzP p):CD p s t=some (okP p s t):=by
 have g1:=h.2.1.1
 have g2:=h.2.2.1.1
 unfold CD okP Fc
 rw [Jm,obs]
 cases hs:tf s
 ·rfl
 ·obtain ⟨hr,hc,_⟩:=mH hs
  rw [aH,bf,zu,obs,o8 (by simp),obs,ak (s.Cols-1) om om,Rd h.2.2.2.sm]
  cases setB t
  ·rfl
  ·rw [aH,bf,aO,aO,h32]
   by_cases c1:p.Root.length=32
   ·rw [fq om,al c1,aO]
    by_cases c2:(p.Gates.length:Int)=s.Rows
    ·rw [fq c2,al c2,aO]
     by_cases c3:(p.Wires.length:Int)=s.Cols
     ·rw [fq c3,al c3,aO]
      simp only [obs]
      have k2:=fun l c c2 c3 c4 c5 c6 c7 c8 c10 c11 c12 c13 c14 c15 c16 c17 c18 c19 c20 c21 c22 c23 c24 c25 c26=>c0f (R:=p.Wires) (size:=3) (x:=false) (y:=okO p.Open (s.Cols-1) t) (step:=uI l c c2 c3 c4 c5 c6 c7 c8 p.Wires c10 c11 c12 c13 c14 c15 c16 c17 c18 c19 c20 c21 c22 c23 c24 c25 c26) (g:=fun _=>some (okO p.Open (s.Cols-1) t)) g2 h.2.2.1.2 (fun _=>rfl) (fun t=>rfl)
      have k1:=fun l c c3 c4 c5 c6 c7 c8 c9 c10 c11 c12 c13 c14 c15 c16 c17 c18 c19 c20 c21 c22 c23 c24 c25 c26 g (hg: ∀e,g e=_)=>c0f (R:=p.Gates) (size:=4) (x:=false) (y:=if p.Wires.all (vZ 3)=true then okO p.Open (s.Cols-1) t else false) (step:=uQ l c p.Gates c3 c4 c5 c6 c7 c8 c9 c10 c11 c12 c13 c14 c15 c16 c17 c18 c19 c20 c21 c22 c23 c24 c25 c26) (g:=g) g1 h.2.1.2 hg (fun t=>rfl)
      rw [k1 _ _ _ _ _ _ _ _ _ _ _ _ _ _ _ _ _ _ _ _ _ _ _ _ _ _ _ (fun e=>k2 _ _ _ _ _ _ _ _ _ _ _ _ _ _ _ _ _ _ _ _ _ _ _ _ _ _)]
      simp only [cr,List.all_nil,gt]
      cases nF p.VA<;>cases nF p.VB<;>cases nF p.VC<;>cases nF p.VW<;>cases p.Gates.all (vZ 4)<;>cases p.Wires.all (vZ 3)<;>rfl
     ·rw [brb c3,ag c3]
      cases p.Gates.all (vZ 4)<;>cases nF p.VA<;>cases nF p.VB<;>cases nF p.VC<;>rfl
    ·rw [brb c2,ag c2];rfl
   ·rw [brb om,ag c1];rfl
end
section
theorem b2R {R T:List K} {β:K} {l t t2 t3 c4 c5 c6:List au} {c c2 c3 c7 c8 c11 c12 RR CC:Int} (hm:OkM l RR CC) (hR:(R.length:Int)=RR) (hT:(T.length:Int)=CC):
 Loop (pb (kv R) t t2 t3 l ((l.length:Nat):Int) c c2 c3 c4 c5 c6 c7 c8 β.1.A β.1.B c11 c12) (kv T,0)=some (kv (l.foldl (btS β R) T),(l.length:Int),false):=
 QS (t:=t) (t2:=t2) (t3:=t3) (t4:=0) (c:=c) (c2:=c2) (c3:=c3) (c4:=c4) (c5:=c5) (c6:=c6) (c9:=0) (c10:=0) (c11:=0) (c12:=0) hm hR hT
theorem b38 {R T:List K} {β:K} {l t t2 t3 c4 c5 c6:List au} {c c2 c3 c7 c8 c9 c10 RR CC:Int} (hm:OkM l RR CC) (hR:(R.length:Int)=RR) (hT:(T.length:Int)=CC):
 Loop (oP (kv R) t t2 t3 l ((l.length:Nat):Int) c c2 c3 c4 c5 c6 c7 c8 c9 c10 β.1.A β.1.B) (kv T,0)=some (kv (l.foldl (btS β R) T),(l.length:Int),false):=
 QS (t:=t) (t2:=t2) (t3:=t3) (t4:=0) (c:=c) (c2:=c2) (c3:=c3) (c4:=c4) (c5:=c5) (c6:=c6) (c9:=0) (c10:=0) (c11:=0) (c12:=0) hm hR hT
def btM (s:bk) (R:List K) (x y z:K):List K:=s.C.foldl (btS z R) (s.B.foldl (btS y R) (s.A.foldl (btS x R) (List.replicate (2^s.Cols.toNat) 0)))
theorem a85 (s:bk) (R:List K) (x y z:K):(btM s R x y z).length=2^s.Cols.toNat:=by rw [btM,qW,qW,qW,aQ]
theorem a7X (n:Nat):kv (List.replicate n 0)=List.replicate n e0:=by rw [kv,List.map_replicate];rfl
theorem a3E {s:bk} (h:tf s=true):OkM s.A ((2^s.Rows.toNat:Nat):Int) ((2^s.Cols.toNat:Nat):Int)/\OkM s.B ((2^s.Rows.toNat:Nat):Int) ((2^s.Cols.toNat:Nat):Int)/\OkM s.C ((2^s.Rows.toNat:Nat):Int) ((2^s.Cols.toNat:Nat):Int)/\
 vT s.A ((2^s.Rows.toNat:Nat):Int) ((2^s.Cols.toNat:Nat):Int)=true/\vT s.B ((2^s.Rows.toNat:Nat):Int) ((2^s.Cols.toNat:Nat):Int)=true/\vT s.C ((2^s.Rows.toNat:Nat):Int) ((2^s.Cols.toNat:Nat):Int)=true:=by
 obtain ⟨hR,hC,_⟩:=mH h
 have e1:s.Rows=((s.Rows.toNat:Nat):Int):=by omega
 have e2:s.Cols=((s.Cols.toNat:Nat):Int):=by omega
 have f1:bG .i64 1 s.Rows=((2^s.Rows.toNat:Nat):Int):=by conv=>lhs;rw [e1];rw [De om]
 have f2:bG .i64 1 s.Cols=((2^s.Cols.toNat:Nat):Int):=by conv=>lhs;rw [e2];rw [De om]
 unfold tf at h
 simp only [aC,aG,f1,f2] at h
 obtain ⟨_,_,_,mA,mB,mC⟩:=h
 exact ⟨Y9 mA,Y9 mB,Y9 mC,mA,mB,mC⟩
theorem Pl {s:bk} (h:tf s=true) {p R:List K} {x y z:K} (hp:p.length=s.Rows.toNat) (hR:eqT (kv p)=kv R):ta s (kv p) (x.1,y.1,z.1)=some (kv (btM s R x y z)):=by
 obtain ⟨hr,hc,_⟩:=mH h
 obtain ⟨mA,mB,mC,_⟩:=a3E h
 have hpw:=wX s.Cols.toNat om
 have hRl:(R.length:Int)=((2^s.Rows.toNat:Nat):Int):=by
  have:=Ej (kv p)
  rw [hR,ci,ci,hp] at this;omega
 have e2:s.Cols=((s.Cols.toNat:Nat):Int):=by omega
 have f2:bG .i64 1 s.Cols=((2^s.Cols.toNat:Nat):Int):=by conv=>lhs;rw [e2];rw [De om]
 unfold ta fB
 rw [brd om,f2,F3 om om om,DN (GH p) (by rw [ci];omega),obs,hR,obs]
 dsimp only
 rw [aK,show Ext.mk 0 0=e0 from rfl, <-a7X,QS mA hRl (by rw [aQ]),obs]
 dsimp only
 rw [b2R mB hRl (by rw [qW,aQ]),obs]
 dsimp only
 rw [b38 mC hRl (by rw [qW,qW,aQ]),obs];rfl
def JZ (l:List Int):List UInt8:=l.flatMap iv
theorem Qf (l:List Int):(JZ l).length=4*l.length:=by
 induction l with
 |nil=>rfl
 |cons x l ih=>simp only [JZ,cD,ab,dG,ah] at*;omega
theorem Xr (l:List Int) (x:Int):JZ (l++[x])=JZ l++iv x:=by simp [JZ]
def setT (t:Setting):List UInt8:=[UInt8.ofInt t.Rate,UInt8.ofInt t.Queries,UInt8.ofInt t.Grind]
def G8 (s:bk) (t:Setting) (p:List Int):List UInt8:=H (Pf s)++setT t++JZ p
theorem b7A {l:List (List UInt8)} {l3 L:List UInt8} {p:List Int} {c c2 c3 c7 c8 c9:Int} {c4 c5 c6:List au} (hp:p.length<=5000) (hL:L.length<=1000):Loop (iT l l3 p ((p.length:Nat):Int) c c2 c3 c4 c5 c6 c7 c8 c9) (L,0)=some (L++JZ p,(p.length:Int),false):=by
 have key:=bx (step:=iT l l3 p ((p.length:Nat):Int) c c2 c3 c4 c5 c6 c7 c8 c9) (fun j=>(L++JZ (p.take j),(j:Int))) p.length (e:=(L++JZ p,(p.length:Int),false)) (fun j hj=> ?_) ?_
 ·simpa [JZ] using key
 ·simp only [iT]
  have hn:=Qf (p.take j)
  rw [bi] at hn
  rw [brd om,cj hj,obs,rp (by simp only [ab];omega),obs,ak _ om om,db hj,Xr,ba];rfl
 ·simp only [iT]
  rw [brn om,ag om,bm]
theorem a9t {l L:List UInt8} {p:List Int} {c c2 c3 c7 c8 c9 c11 c13 c14 c16:Int} {c10:List Ext} {c12 c15:List UInt8} {c4 c5 c6:List au} (hp:p.length<=5000) (hL:L.length<=1000):Loop (jE l p c c2 c3 c4 c5 c6 c7 c8 c9 c10 c11 c12 c13 c14 c15 c16) (L,0)=some (L++JZ p,(p.length:Int),false):=by
 have key:=bx (step:=jE l p c c2 c3 c4 c5 c6 c7 c8 c9 c10 c11 c12 c13 c14 c15 c16) (fun j=>(L++JZ (p.take j),(j:Int))) p.length (e:=(L++JZ p,(p.length:Int),false)) (fun j hj=> ?_) ?_
 ·simpa [JZ] using key
 ·simp only [jE]
  have hn:=Qf (p.take j)
  rw [bi] at hn
  rw [brd om,cj hj,obs,zQ,obs,bw (by simp only [ab,dG];omega),ak _ om om,db hj,Xr,ba];rfl
 ·simp only [jE]
  rw [brn om,ag om,bm]
theorem Qv (s:bk) (t:Setting) (p:List Int):(G8 s t p).length=35+4*p.length:=by
 simp only [G8,ab,EE,setT,ah,ai,Qf]
end
section
noncomputable def stC (s:bk) (t:Setting) (p:List Int) (src:Source):Int:=
 if p.length>4096 then 2 else if tf s=false then 1 else if setB t=false then 1 else if p.all Gr=false then 1 else if a1D src=false then 1
 else if (p.length:Int)≠s.Publics then 17 else if 999800<mx src.At src.Count then 6 else 0
theorem RE {s:bk} {t:Setting} {p:List Int} {src:Source} (hA:s.A.length<=1048576) (hB:s.B.length<=1048576) (hC:s.C.length<=1048576) (hp:p.length<=1048576) (hs:src.Script.length<=1048576):
 ws s t p src=some (stC s t p src):=by
 unfold ws stC
 by_cases c1:p.length>4096
 ·rw [brd om,ae c1]
 rw [brn om,aa c1,IU om om om,obs]
 cases h2:tf s
 ·rfl
 rw [aH,bf,aa (by simp),zj,obs]
 cases h3:setB t
 ·rfl
 rw [aH,bf,aa (by simp),b0p om,obs]
 cases h4:p.all Gr
 ·rfl
 rw [aH,bf,aa (by simp),Wp om,obs]
 cases h5:a1D src
 ·rfl
 have ho:=Sb.1 h5
 have h0:0<=mx src.At src.Count:=by have:=ho.4;have:=ho.6;unfold mx;split<;>assumption
 have h9:=c4m ho.5 ho.7
 rw [aH,bf,aa (by simp)]
 by_cases c6:(p.length:Int)=s.Publics
 ·rw [fq c6,aa (by simp [c6])]
  unfold uR
  rw [obs,ak _ om om]
  by_cases c7:999800<mx src.At src.Count
  ·rw [brd om,ae c7]
  ·rw [brn om,aa c7]
 ·rw [brb c6,ae c6]
theorem a1J {s:bk} {t:Setting} {p:List Int} {src:Source} (hp:p.length<=1048576) (hs:src.Script.length<=1048576):
 Gl s t p src=some (stC s t p src):=by
 unfold Gl stC
 by_cases c1:p.length>4096
 ·rw [brd om,ae c1]
 rw [brn om,aa c1,Jm,obs]
 cases h2:tf s
 ·rfl
 rw [aH,bf,aa (by simp),zu,obs]
 cases h3:setB t
 ·rfl
 rw [aH,bf,aa (by simp),a3i om,obs]
 cases h4:p.all Gr
 ·rfl
 rw [aH,bf,aa (by simp),Vd om,obs]
 cases h5:a1D src
 ·rfl
 have ho:=Sb.1 h5
 rw [aH,bf,aa (by simp)]
 by_cases c6:(p.length:Int)=s.Publics
 ·rw [fq c6,aa (by simp [c6])]
  unfold E7
  rw [ak _ om om]
  by_cases c7:999800<mx src.At src.Count
  ·rw [ae c7]
   by_cases c8:src.At>999800
   ·rw [brd om];rfl
   ·have:src.Count>999800:=by unfold mx at c7;split at c7<;>omega
    rw [brn om,al om];rfl
  ·rw [aa c7]
   have:src.At<=999800/\src.Count<=999800:=by unfold mx at c7;split at c7<;>omega
   rw [brn om,ag om];rfl
 ·rw [brb c6,ae c6]
structure Py (s:bk) (t:Setting) (p:List Int) (src:Source):Prop where
 sy:tf s=true
 se:setB t=true
 pl:p.length<=4096
 pf:KW p
 pe:(p.length:Int)=s.Publics
 fw:Few src 999800
theorem c3o {s:bk} {t:Setting} {p:List Int} {src:Source} (h:stC s t p src=0):Py s t p src:=by
 unfold stC at h
 split at h
 ·cases h
 split at h
 ·cases h
 split at h
 ·cases h
 split at h
 ·cases h
 split at h
 ·cases h
 split at h
 ·cases h
 split at h
 ·cases h
 rename_i h1 h2 h3 h4 h5 h6 h7
 have ho:=Sb.1 (by simpa using h5)
 refine ⟨by simpa using h2,by simpa using h3,by omega,c5T.1 (by simpa using h4),by simpa using h6,ho, ?_, ?_⟩<;>(unfold mx at h7;split at h7<;>omega)
theorem SR {s:bk} {t:Setting} {p:List Int} {src:Source} (h:Py s t p src):vP s t p=some (G8 s t p):=by
 obtain ⟨_,_,_,hA,hB,hC⟩:=mH h.sy
 have hle:=h.pl
 have hl:=a2p s
 have hH:=EE (Pf s)
 unfold vP
 rw [PE hA hB hC,obs,vx (by simpa using by omega) (by simp),obs,show [Pf s].flatten=Pf s by simp,bw om,bw (by simp only [ab,ah,ai];omega),
  b7A om (by simp only [ab,ah,ai];omega),obs];rfl
theorem Wn {s:bk} {t:Setting} {p:List Int} {src:Source} (h:Py s t p src):yG s t p src=some (tkM src (G8 s t p)):=by
 obtain ⟨_,_,_,hA,hB,hC⟩:=mH h.sy
 have hle:=h.pl
 have hs2:=Qv s t p
 have hH:=EE (Pf s)
 unfold yG
 rw [R0 hA hB hC,obs,bw (by simp only [ah,ai];omega),a9t om (by simp only [ab,ah,ai];omega),obs]
 dsimp only
 rw [show H (Pf s)++[UInt8.ofInt t.Rate,UInt8.ofInt t.Queries,UInt8.ofInt t.Grind]++JZ p=G8 s t p from rfl,vN h.fw.1.3 om,obs]
theorem NH {R T B:List K} {M:List (List au)} {k:Nat} {c7 c8 c9:Int} {c10 c11 c12:List au} {RR CC:Int} (hk:k<M.length) (hB:k<B.length) (hm:OkM (M.getD k []) RR CC) (hR:(R.length:Int)=RR) (hT:(T.length:Int)=CC):
 Loop (fI M (kv B) (kv R) (k:Int) c7 c8 c9 c10 c11 c12) (kv T,0)=some (kv ((M.getD k []).foldl (btS (B.getD k 0) R) T),((M.getD k []).length:Int),false):=by
 have hl:=hm.len
 have hMk:M[(k:Int).toNat]? =some (M.getD k []):=by rw [aK];simp [hk]
 generalize M.getD k []=l at*
 have key:=bx (step:=fI M (kv B) (kv R) (k:Int) c7 c8 c9 c10 c11 c12) (fun j=>(kv ((l.take j).foldl (btS (B.getD k 0) R) T),(j:Int))) l.length (e:=(kv (l.foldl (btS (B.getD k 0) R) T),(l.length:Int),false)) (fun j hj=> ?_) ?_
 ·exact key
 ·simp only [fI]
  obtain ⟨hr,hc,_⟩:=hm.ent _ (aY hj)
  have hv:=b5x (hm.ent _ (aY hj))
  have hn:=qW (B.getD k 0) R (l.take j) T
  have hrow:atL (kv R) l[j].Row=some (R.getD l[j].Row.toNat 0).1:=by
   have:=wZ (l:=R) (j:=l[j].Row.toNat) om
   rwa [ez hr.1] at this
  rw [brd om,brd om,hMk,obs,brd om,brd om,brd om,obs,cj hj,obs,brd hc.1,brd (by rw [ci,hn];omega),a7N om,obs,wZ hB,obs,LA,obs,hrow,obs, <-Ec hv,
   fE (kF _).2 (aI _),obs,fE (aI _) (rY _ _),obs,lS (aI _) (rY _ _),obs,brd hc.1,brd (by rw [ci,hn];omega),obs,ak _ om om,db hj,i7]
  show some (Sum.inl ((kv _).set l[j].Col.toNat ((List.foldl (btS (B.getD k 0) R) T (l.take j)).getD l[j].Col.toNat 0+B.getD k 0*(kF l[j].Value*R.getD l[j].Row.toNat 0)).1,_))=_
  rw [b33,show B.getD k 0*(kF l[j].Value*R.getD l[j].Row.toNat 0)=B.getD k 0*R.getD l[j].Row.toNat 0*kF l[j].Value by exact kg];rfl
 ·simp only [fI]
  rw [brd om,brd om,hMk,obs,brn om,ag om,bm]
theorem UK {s:bk} (h:tf s=true) {p R:List K} {x y z:K} (hp:p.length=s.Rows.toNat) (hR:eqT (kv p)=kv R):yY s (kv p) (kv [x,y,z])=some (kv (btM s R x y z)):=by
 obtain ⟨hr,hc,_⟩:=mH h
 obtain ⟨mA,mB,mC,_⟩:=a3E h
 have hpw:=wX s.Cols.toNat om
 have hRl:(R.length:Int)=((2^s.Rows.toNat:Nat):Int):=by
  have:=Ej (kv p)
  rw [hR,ci,ci,hp] at this;omega
 have e2:s.Cols=((s.Cols.toNat:Nat):Int):=by omega
 have f2:bG .i64 1 s.Cols=((2^s.Cols.toNat:Nat):Int):=by conv=>lhs;rw [e2];rw [De om]
 have l0:=NH (M:=[s.A,s.B,s.C]) (B:=[x,y,z]) (k:=0) (T:=List.replicate (2^s.Cols.toNat) 0) (R:=R) (c7:=s.Rows) (c8:=s.Cols) (c9:=s.Publics) (c10:=s.A) (c11:=s.B) (c12:=s.C) (by simp) (by simp) mA hRl (by rw [aQ])
 have l1:=NH (M:=[s.A,s.B,s.C]) (B:=[x,y,z]) (k:=1) (T:=s.A.foldl (btS x R) (List.replicate (2^s.Cols.toNat) 0)) (R:=R) (c7:=s.Rows) (c8:=s.Cols) (c9:=s.Publics) (c10:=s.A) (c11:=s.B) (c12:=s.C) (by simp) (by simp) mB hRl (by rw [qW,aQ])
 have l2:=NH (M:=[s.A,s.B,s.C]) (B:=[x,y,z]) (k:=2) (T:=s.B.foldl (btS y R) (s.A.foldl (btS x R) (List.replicate (2^s.Cols.toNat) 0))) (R:=R) (c7:=s.Rows) (c8:=s.Cols) (c9:=s.Publics) (c10:=s.A) (c11:=s.B) (c12:=s.C) (by simp) (by simp) mC hRl (by rw [qW,qW,aQ])
 simp only [List.getD_cons_zero,List.getD_cons_succ] at l0 l1 l2
 unfold yY
 rw [eU _ om om,brd om,f2,F3 om om om,KM (GH p) (by rw [ci];omega),obs,hR]
 rw [aK,show Ext.mk 0 0=e0 from rfl, <-a7X]
 have key:=bx (step:=lU [s.A,s.B,s.C] (kv [x,y,z]) (kv R) s.Rows s.Cols s.Publics s.A s.B s.C) (fun j=>(kv (match j with
  |0=>List.replicate (2^s.Cols.toNat) 0
  |1=>s.A.foldl (btS x R) (List.replicate (2^s.Cols.toNat) 0)
  |2=>s.B.foldl (btS y R) (s.A.foldl (btS x R) (List.replicate (2^s.Cols.toNat) 0))
  |_=>btM s R x y z),(j:Int))) 3 (e:=(kv (btM s R x y z),3,false)) (fun j hj=> ?_) (by rfl)
 ·have key':Loop (lU [s.A,s.B,s.C] (kv [x,y,z]) (kv R) s.Rows s.Cols s.Publics s.A s.B s.C) (kv (List.replicate (2^s.Cols.toNat) 0),0)=_:=key
  rw [key',obs]
 ·simp only [lU]
  rw [brd om]
  match j,hj with
  |0,_=>
   show (Loop (fI [s.A,s.B,s.C] (kv [x,y,z]) (kv R) ((0:Nat):Int) s.Rows s.Cols s.Publics s.A s.B s.C) (kv (List.replicate (2^s.Cols.toNat) 0),0)).bind _=_
   rw [l0,obs];rfl
  |1,_=>
   show (Loop (fI [s.A,s.B,s.C] (kv [x,y,z]) (kv R) ((1:Nat):Int) s.Rows s.Cols s.Publics s.A s.B s.C) (kv (s.A.foldl (btS x R) (List.replicate (2^s.Cols.toNat) 0)),0)).bind _=_
   rw [l1,obs];rfl
  |2,_=>
   show (Loop (fI [s.A,s.B,s.C] (kv [x,y,z]) (kv R) ((2:Nat):Int) s.Rows s.Cols s.Publics s.A s.B s.C) (kv (s.B.foldl (btS y R) (s.A.foldl (btS x R) (List.replicate (2^s.Cols.toNat) 0))),0)).bind _=_
   rw [l2,obs];rfl
theorem a0J (x y z:K):CA x.1 y.1 z.1=some (x+z*(y-x)).1:=by
 unfold CA
 rw [rE y.2 x.2,obs,fR z.2 (yF _ _),obs,lZ x.2 (rY _ _),obs];rfl
theorem c4a {L:List Ext} (h:hG L) (hl:L.length=3): ∃a b c:K,L=kv [a,b,c]:=by
 obtain ⟨l,rfl⟩:=b9E h
 rw [ci] at hl
 match l,hl with
 |[a,b,c],_=>exact ⟨a,b,c,rfl⟩
noncomputable def b3h (s:bk) (p:List Int) (P:List K):K:=toK (b6Q s p (kv P))
theorem a4H (s:bk) (p:List Int) (P:List K):(b3h s p P).1=b6Q s p (kv P):=ml (b86 _ _)
noncomputable def vx1 (s:bk) (t:Setting) (p:List Int) (root:List UInt8) (src:Source):Source:=tkM (tkM src (G8 s t p)) root
noncomputable def vg1 (s:bk) (t:Setting) (p:List Int) (root:List UInt8) (G:List (List K)) (src:Source):Int×List K×K×Source:=vfM 2 bv0 G 0 0 (drS (vx1 s t p root src) s.Rows.toNat)
noncomputable def vx3 (s:bk) (t:Setting) (p:List Int) (root:List UInt8) (G:List (List K)) (va vb vc:K) (src:Source):Source:=rsM (vg1 s t p root G src).2.2.2 [va,vb,vc]
noncomputable def vr (x:Source) (j:Nat):K:=toK ((drL x 3).getD j e0)
noncomputable def vg2 (s:bk) (t:Setting) (p:List Int) (root:List UInt8) (G W:List (List K)) (va vb vc:K) (src:Source):Int×List K×K×Source:=
 vfM 1 bv0 W 0 (vr (vx3 s t p root G va vb vc src) 0*va+(vr (vx3 s t p root G va vb vc src) 1*vb+vr (vx3 s t p root G va vb vc src) 2*vc)) (drS (vx3 s t p root G va vb vc src) 3)
noncomputable def a8r (s:bk) (p:List Int) (rx ry:List K) (r0 r1 r2 vw:K):K:=
 UE (btM s (eqK rx) r0 r1 r2) (eqK ry)*(b3h s p (ry.take (s.Cols.toNat-1))+ry.getD (s.Cols.toNat-1) 0*(vw-b3h s p (ry.take (s.Cols.toNat-1))))
theorem XE (s:bk) (p:List Int) (rx ry:List K) (r0 r1 r2 vw:K):a8r s p rx ry r0 r1 r2 vw=UE (btM s (eqK rx) r0 r1 r2) (eqK ry)*(b3h s p (ry.take (s.Cols.toNat-1))+ry.getD (s.Cols.toNat-1) 0*(vw-b3h s p (ry.take (s.Cols.toNat-1)))):=rfl
noncomputable def b8r (s:bk) (t:Setting) (p:List Int) (root:List UInt8) (G W:List (List K)) (va vb vc vw:K) (o:Opening) (src:Source):Int:=
 if (vg1 s t p root G src).1≠0 then (vg1 s t p root G src).1
 else if cmK 2 [eaK ((drL (vx1 s t p root src) s.Rows.toNat).map toK) (vg1 s t p root G src).2.1 1,va,vb,vc]≠(vg1 s t p root G src).2.2.1 then 11
 else if (vg2 s t p root G W va vb vc src).1≠0 then (vg2 s t p root G W va vb vc src).1
 else if a8r s p (vg1 s t p root G src).2.1 (vg2 s t p root G W va vb vc src).2.1 (vr (vx3 s t p root G va vb vc src) 0) (vr (vx3 s t p root G va vb vc src) 1) (vr (vx3 s t p root G va vb vc src) 2) vw≠(vg2 s t p root G W va vb vc src).2.2.1 then 11
 else chO (s.Cols.toNat-1) t.Rate.toNat t.Queries.toNat t.Grind.toNat root ((vg2 s t p root G W va vb vc src).2.1.take (s.Cols.toNat-1)) vw o (rsM (vg2 s t p root G W va vb vc src).2.2.2 [vw])
theorem a6E {L:List Ext} (h:hG L):kv (L.map toK)=L:=by
 rw [kv,jr]
 conv=>rhs;rw [<-List.map_id L]
 exact cC fun x hx=>ml (h x hx)
theorem c5l {x:Source} {k:Int} (h:Few x k) (hk:k<=999890):drL x 3=kv [vr x 0,vr x 1,vr x 2]:=by
 have ho:=Ud h hk (n:=3) om
 obtain ⟨a,b,c,e⟩:=c4a ho (oV x 3)
 rw [vr,vr,vr,e]
 show [a.1,b.1,c.1]=[(toK a.1).1,(toK b.1).1,(toK c.1).1]
 rw [ml a.2,ml b.2,ml c.2]
end
section
structure a1w (s:bk) (t:Setting) (root:List UInt8) (G W:List (List K)) (o:Opening):Prop where
 rt:root.length=32
 gl:G.length=s.Rows.toNat
 g4: ∀g∈G,g.length=4
 wl:W.length=s.Cols.toNat
 w3: ∀g∈W,g.length=3
 op:OkO o (s.Cols.toNat-1) t
variable {s:bk} {t:Setting} {p:List Int} {src:Source} {root:List UInt8} {G W:List (List K)} {va vb vc vw:K} {o:Opening}
theorem a0W (h:Py s t p src):Few (vx1 s t p root src) 999802:=((h.fw.take _).take _).mono om
theorem Zr (h:Py s t p src):Few (drS (vx1 s t p root src) s.Rows.toNat) 999807:=by
 obtain ⟨hr,_⟩:=mH h.sy
 exact (Hx (a0W h) om _ om).mono om
theorem a1t (h:Py s t p src) (q:a1w s t root G W o):Few (vg1 s t p root G src).2.2.2 999822:=by
 obtain ⟨hr,_⟩:=mH h.sy
 have:=q.gl
 exact (QE (kind:=2) b6k G 0 0 _ _ (Zr h) om).mono om
theorem a0Y (h:Py s t p src) (q:a1w s t root G W o):Few (vx3 s t p root G va vb vc src) 999823:=(Few.take (a1t h q) _).mono om
theorem Yb (h:Py s t p src) (q:a1w s t root G W o):Few (drS (vx3 s t p root G va vb vc src) 3) 999826:=(Hx (a0Y h q) om 3 om).mono om
theorem a7T (h:Py s t p src) (q:a1w s t root G W o):Few (vg2 s t p root G W va vb vc src).2.2.2 999841:=by
 obtain ⟨_,hc,_⟩:=mH h.sy
 have:=q.wl
 exact (QE (kind:=1) b6k W 0 _ _ _ (Yb h q) om).mono om
theorem a8x (q:a1w s t root G W o) (z:(vg1 s t p root G src).1=0):(vg1 s t p root G src).2.1.length=s.Rows.toNat:=(RS (kind:=2) (bv:=bv0) G 0 0 _ z).trans q.gl
theorem a8M (q:a1w s t root G W o) (z:(vg2 s t p root G W va vb vc src).1=0):(vg2 s t p root G W va vb vc src).2.1.length=s.Cols.toNat:=(RS (kind:=1) (bv:=bv0) W 0 _ _ z).trans q.wl
theorem b2h (a b c x y z:K):UE [a,b,c] [x,y,z]=a*x+(b*y+c*z):=by simp only [UE];exact kg
theorem a2Z (h:Py s t p src) (q:a1w s t root G W o):
 ∃src',ki s t p ⟨root,kvv G,va.1,vb.1,vc.1,kvv W,vw.1,o⟩ src=some (b8r s t p root G W va vb vc vw o src,src'):=by
 obtain ⟨hr,hc,hpb,_⟩:=mH h.sy
 obtain ⟨_,hpub⟩:=a8n h.sy
 have hpl:=h.pl
 have hpe:=h.pe
 have hst:=Qv s t p
 have hrt:=q.rt
 have f1:=a0W (root:=root) h
 have f2:=Zr (root:=root) h
 have f3:=a0Y (va:=va) (vb:=vb) (vc:=vc) h q
 have f4:=Yb (va:=va) (vb:=vb) (vc:=vc) h q
 have f5:=a7T (va:=va) (vb:=vb) (vc:=vc) h q
 have bV:=xn h.se
 have eR:((s.Rows.toNat:Nat):Int)=s.Rows:=by omega
 have hd1:=Km f1 om (n:=s.Rows.toNat) om
 rw [eR] at hd1
 have hv1:cN 2 (Ext.mk 0 0) (kvv G) (drS (vx1 s t p root src) s.Rows.toNat)=_:=FG (kind:=2) (.inr rfl) (R:=G) (c:=0) f2 (by have:=q.gl;omega)
 rw [show vfM 2 bv0 G 0 0 (drS (vx1 s t p root src) s.Rows.toNat)=vg1 s t p root G src from rfl] at hv1
 unfold ki
 dsimp only
 rw [SR h,obs,vQ h.fw.1.3 om,obs,bw om,vQ (h.fw.take _).1.3 om,obs]
 rw [show tkM (tkM src (G8 s t p)) root=vx1 s t p root src from rfl,hd1,obs]
 dsimp only
 rw [hv1,obs]
 unfold b8r
 by_cases z1:(vg1 s t p root G src).1=0
 ·have hl1:=a8x q z1
  rw [ae z1,aa (gu z1)]
  dsimp only
  have htau:=Ud f1 om (n:=s.Rows.toNat) om
  have hea:Kr (drL (vx1 s t p root src) s.Rows.toNat) (kv (vg1 s t p root G src).2.1)=some (eaK ((drL (vx1 s t p root src) s.Rows.toNat).map toK) (vg1 s t p root G src).2.1 1).1:=by
   have:=a7O (A:=(drL (vx1 s t p root src) s.Rows.toNat).map toK) (B:=(vg1 s t p root G src).2.1) (by rw [aM,oV,hl1]) (by rw [aM,oV];omega)
   rwa [a6E htau] at this
  have hcm: ∀x:K,ye 2 [x.1,va.1,vb.1,vc.1]=some (cmK 2 [x,va,vb,vc]).1:=fun x=>YD (kind:=2) (v:=[x,va,vb,vc]) (.inr rfl) rfl
  rw [fq rfl,hea,obs,hcm,obs,HW]
  by_cases z2:cmK 2 [eaK ((drL (vx1 s t p root src) s.Rows.toNat).map toK) (vg1 s t p root G src).2.1 1,va,vb,vc]=(vg1 s t p root G src).2.2.1
  ·have hd3:=Km f3 om (n:=3) om
   rw [show ((3:Nat):Int)=3 from rfl,c5l f3 om] at hd3
   have hab:cY [va.1,vb.1,vc.1] (vg1 s t p root G src).2.2.2=some (vx3 s t p root G va vb vc src):=Sk (g:=[va,vb,vc]) (a1t h q).1 (by simp)
   have hdot: ∀a b c:K,KS (kv [a,b,c]) [va.1,vb.1,vc.1]=some (a*va+(b*vb+c*vc)).1:=fun a b c=>by
    have:=SU (GH [a,b,c]) (GH [va,vb,vc]) (by simp [ci]) (by simp [ci])
    rw [a7d,b2h] at this
    exact this
   have hv2:cN 1 (vr (vx3 s t p root G va vb vc src) 0*va+(vr (vx3 s t p root G va vb vc src) 1*vb+vr (vx3 s t p root G va vb vc src) 2*vc)).1 (kvv W) (drS (vx3 s t p root G va vb vc src) 3)=_:=FG (kind:=1) (.inl rfl) (R:=W) f4 (by have:=q.wl;omega)
   rw [show vfM 1 bv0 W 0 (vr (vx3 s t p root G va vb vc src) 0*va+(vr (vx3 s t p root G va vb vc src) 1*vb+vr (vx3 s t p root G va vb vc src) 2*vc)) (drS (vx3 s t p root G va vb vc src) 3)=vg2 s t p root G W va vb vc src from rfl] at hv2
   rw [ae z2,aa (gu z2),hab,obs,hd3,obs]
   dsimp only
   rw [hdot,obs,hv2,obs]
   by_cases z3:(vg2 s t p root G W va vb vc src).1=0
   ·have hl2:=a8M q z3
    have htk:((vg2 s t p root G W va vb vc src).2.1.take (s.Cols.toNat-1)).length=s.Cols.toNat-1:=by rw [bi];omega
    have hat:=wZ (l:=(vg2 s t p root G W va vb vc src).2.1) (j:=s.Cols.toNat-1) om
    rw [show ((s.Cols.toNat-1:Nat):Int)=s.Cols-1 by omega] at hat
    rw [ae z3,aa (gu z3)]
    dsimp only
    have hbt:=Pl h.sy (p:=(vg1 s t p root G src).2.1) (R:=eqK (vg1 s t p root G src).2.1) (x:=vr (vx3 s t p root G va vb vc src) 0) (y:=vr (vx3 s t p root G va vb vc src) 1) (z:=vr (vx3 s t p root G va vb vc src) 2) hl1 (Qh _)
    have hbl:=a85 s (eqK (vg1 s t p root G src).2.1) (vr (vx3 s t p root G va vb vc src) 0) (vr (vx3 s t p root G va vb vc src) 1) (vr (vx3 s t p root G va vb vc src) 2)
    have hel:=b7O (vg2 s t p root G W va vb vc src).2.1
    have hpw:=wX s.Cols.toNat om
    rw [hl2] at hel
    have hdt:KS (kv (btM s (eqK (vg1 s t p root G src).2.1) (vr (vx3 s t p root G va vb vc src) 0) (vr (vx3 s t p root G va vb vc src) 1) (vr (vx3 s t p root G va vb vc src) 2))) (kv (eqK (vg2 s t p root G W va vb vc src).2.1))=some (UE (btM s (eqK (vg1 s t p root G src).2.1) (vr (vx3 s t p root G va vb vc src) 0) (vr (vx3 s t p root G va vb vc src) 1) (vr (vx3 s t p root G va vb vc src) 2)) (eqK (vg2 s t p root G W va vb vc src).2.1)).1:=by
     rw [SU (GH _) (GH _) (by rw [ci,ci];omega) (by rw [ci];omega),a7d]
    rw [fq rfl,ak (s.Cols-1) om om,mK om om (by rw [ci];omega),obs,hat,obs,brd (by simp [ci])]
    rw [show c4r (kv [vr (vx3 s t p root G va vb vc src) 0,vr (vx3 s t p root G va vb vc src) 1,vr (vx3 s t p root G va vb vc src) 2])=some ((vr (vx3 s t p root G va vb vc src) 0).1,(vr (vx3 s t p root G va vb vc src) 1).1,(vr (vx3 s t p root G va vb vc src) 2).1) from rfl,obs,hbt,obs,
     DN (GH _) (by rw [ci];omega),obs,Qh,hdt,obs,show (Int.toNat 0)=0 from rfl,io,show (s.Cols-1).toNat-0=s.Cols.toNat-1 by omega,a84,
     VS h.sy om h.pf (GH _) (by rw [ci];omega),obs, <-a4H,a0J,obs,fR (aI _) (aI _),obs, <-K.mul_val, <-XE,HW]
    by_cases z4:a8r s p (vg1 s t p root G src).2.1 (vg2 s t p root G W va vb vc src).2.1 (vr (vx3 s t p root G va vb vc src) 0) (vr (vx3 s t p root G va vb vc src) 1) (vr (vx3 s t p root G va vb vc src) 2) vw=(vg2 s t p root G W va vb vc src).2.2.1
    ·obtain ⟨src',hck,_⟩:=a6r (s:=rsM (vg2 s t p root G W va vb vc src).2.2.2 [vw]) (root:=root) (cl:=vw) (P:=(vg2 s t p root G W va vb vc src).2.1.take (s.Cols.toNat-1)) (nq:=t.Queries.toNat) (ρ:=t.Rate.toNat) (bits:=t.Grind.toNat) q.op htk om om om ((Few.take f5 _).mono om:Few (rsM (vg2 s t p root G W va vb vc src).2.2.2 [vw]) 999842) om
     have hab2:cY [vw.1] (vg2 s t p root G W va vb vc src).2.2.2=some (rsM (vg2 s t p root G W va vb vc src).2.2.2 [vw]):=Sk (g:=[vw]) f5.1 (by simp)
     rw [ae z4,aa (gu z4),hab2,obs,hck,obs]
     exact ⟨_,rfl⟩
    ·rw [aa z4,ae z4]
     exact ⟨_,rfl⟩
   ·rw [aa z3,ae z3]
    dsimp only
    rw [brb z3]
    exact ⟨_,rfl⟩
  ·rw [aa z2,ae z2]
   exact ⟨_,rfl⟩
 ·rw [aa z1,ae z1]
  dsimp only
  rw [brb z1]
  exact ⟨_,rfl⟩
theorem c1c (D a b z:K):D*((1-z)*a+z*b)=D*(a+z*(b-a)):=by exact kg
theorem Tj (h:Py s t p src) (q:a1w s t root G W o):
 rX s t p ⟨root,kvv G,va.1,vb.1,vc.1,kvv W,vw.1,o⟩ src=some (b8r s t p root G W va vb vc vw o src):=by
 obtain ⟨hr,hc,hpb,_⟩:=mH h.sy
 obtain ⟨_,hpub⟩:=a8n h.sy
 have hpl:=h.pl
 have hpe:=h.pe
 have hrt:=q.rt
 have f1:=a0W (root:=root) h
 have f2:=Zr (root:=root) h
 have f3:=a0Y (va:=va) (vb:=vb) (vc:=vc) h q
 have f4:=Yb (va:=va) (vb:=vb) (vc:=vc) h q
 have f5:=a7T (va:=va) (vb:=vb) (vc:=vc) h q
 have bV:=xn h.se
 have eR:((s.Rows.toNat:Nat):Int)=s.Rows:=by omega
 have hd1:=NG f1 om (n:=s.Rows.toNat) om
 rw [eR] at hd1
 have hv1:mh 2 (Ext.mk 0 0) (kvv G) (G.length:Int) (drS (vx1 s t p root src) s.Rows.toNat)=_:=Ot (kind:=2) (.inr rfl) (R:=G) (c:=0) f2 (by have:=q.gl;omega)
 rw [show vfM 2 bv0 G 0 0 (drS (vx1 s t p root src) s.Rows.toNat)=vg1 s t p root G src from rfl,q.gl,eR] at hv1
 unfold rX
 dsimp only
 rw [Wn h,obs,vN (h.fw.take _).1.3 om,obs]
 rw [show tkM (tkM src (G8 s t p)) root=vx1 s t p root src from rfl,hd1,obs]
 dsimp only
 rw [hv1,obs]
 unfold b8r
 by_cases z1:(vg1 s t p root G src).1=0
 ·have hl1:=a8x q z1
  rw [ae z1,aa (gu z1)]
  dsimp only
  have htau:=Ud f1 om (n:=s.Rows.toNat) om
  have hea:uc (drL (vx1 s t p root src) s.Rows.toNat) (kv (vg1 s t p root G src).2.1)=some (eaK ((drL (vx1 s t p root src) s.Rows.toNat).map toK) (vg1 s t p root G src).2.1 1).1:=by
   have:=a8h (A:=(drL (vx1 s t p root src) s.Rows.toNat).map toK) (B:=(vg1 s t p root G src).2.1) (by rw [aM,oV,hl1]) (by rw [aM,oV];omega)
   rwa [a6E htau] at this
  have hcm: ∀x:K,oT 2 [x.1,va.1,vb.1,vc.1]=some (cmK 2 [x,va,vb,vc]).1:=fun x=>a04 (kind:=2) (v:=[x,va,vb,vc]) (.inr rfl) rfl
  rw [fq rfl,hea,obs,hcm,obs,HW]
  by_cases z2:cmK 2 [eaK ((drL (vx1 s t p root src) s.Rows.toNat).map toK) (vg1 s t p root G src).2.1 1,va,vb,vc]=(vg1 s t p root G src).2.2.1
  ·have hd3:=NG f3 om (n:=3) om
   rw [show ((3:Nat):Int)=3 from rfl,c5l f3 om] at hd3
   have hab:lF (vg1 s t p root G src).2.2.2 [va.1,vb.1,vc.1]=some (vx3 s t p root G va vb vc src):=R2 (g:=[va,vb,vc]) (a1t h q).1 (by simp)
   have hv2:mh 1 (vr (vx3 s t p root G va vb vc src) 0*va+(vr (vx3 s t p root G va vb vc src) 1*vb+vr (vx3 s t p root G va vb vc src) 2*vc)).1 (kvv W) (W.length:Int) (drS (vx3 s t p root G va vb vc src) 3)=_:=Ot (kind:=1) (.inl rfl) (R:=W) f4 (by have:=q.wl;omega)
   rw [show vfM 1 bv0 W 0 (vr (vx3 s t p root G va vb vc src) 0*va+(vr (vx3 s t p root G va vb vc src) 1*vb+vr (vx3 s t p root G va vb vc src) 2*vc)) (drS (vx3 s t p root G va vb vc src) 3)=vg2 s t p root G W va vb vc src from rfl,q.wl,show ((s.Cols.toNat:Nat):Int)=s.Cols by omega] at hv2
   have k0: ∀a b c:K,atL (kv [a,b,c]) 0=some a.1:=fun _ _ _=>rfl
   have k1: ∀a b c:K,atL (kv [a,b,c]) 1=some b.1:=fun _ _ _=>rfl
   have k2: ∀a b c:K,atL (kv [a,b,c]) 2=some c.1:=fun _ _ _=>rfl
   have hm: ∀a b:K,dD a.1 b.1=some (a*b).1:=fun a b=>fE a.2 b.2
   have ha: ∀a b:K,j1 a.1 b.1=some (a+b).1:=fun a b=>lS a.2 b.2
   rw [ae z2,aa (gu z2),hab,obs,hd3,obs]
   dsimp only
   rw [k0,obs,hm,obs,k1,obs,hm,obs,k2,obs,hm,obs,ha,obs,ha,obs,hv2,obs]
   by_cases z3:(vg2 s t p root G W va vb vc src).1=0
   ·have hl2:=a8M q z3
    have htk:((vg2 s t p root G W va vb vc src).2.1.take (s.Cols.toNat-1)).length=s.Cols.toNat-1:=by rw [bi];omega
    have hat:=wZ (l:=(vg2 s t p root G W va vb vc src).2.1) (j:=s.Cols.toNat-1) om
    rw [show ((s.Cols.toNat-1:Nat):Int)=s.Cols-1 by omega] at hat
    rw [ae z3,aa (gu z3)]
    dsimp only
    have hbt:=UK h.sy (p:=(vg1 s t p root G src).2.1) (R:=eqK (vg1 s t p root G src).2.1) (x:=vr (vx3 s t p root G va vb vc src) 0) (y:=vr (vx3 s t p root G va vb vc src) 1) (z:=vr (vx3 s t p root G va vb vc src) 2) hl1 (Qh _)
    have hbl:=a85 s (eqK (vg1 s t p root G src).2.1) (vr (vx3 s t p root G va vb vc src) 0) (vr (vx3 s t p root G va vb vc src) 1) (vr (vx3 s t p root G va vb vc src) 2)
    have hpw:=wX s.Cols.toNat om
    have hdt:DW (kv (btM s (eqK (vg1 s t p root G src).2.1) (vr (vx3 s t p root G va vb vc src) 0) (vr (vx3 s t p root G va vb vc src) 1) (vr (vx3 s t p root G va vb vc src) 2))) (kv (vg2 s t p root G W va vb vc src).2.1)=some (UE (btM s (eqK (vg1 s t p root G src).2.1) (vr (vx3 s t p root G va vb vc src) 0) (vr (vx3 s t p root G va vb vc src) 1) (vr (vx3 s t p root G va vb vc src) 2)) (eqK (vg2 s t p root G W va vb vc src).2.1)).1:=by
     rw [a8l (GH _) (GH _) (by rw [ci];omega) (by rw [ci,ci,hl2];omega),Qh,a7d]
    have hls: ∀a:K,p6 a.1=some (1-a).1:=fun a=>HQ a.2
    rw [fq rfl,ak (s.Cols-1) om om,mK om om (by rw [ci];omega),obs,hat,obs,hls,obs,show (Int.toNat 0)=0 from rfl,io,show (s.Cols-1).toNat-0=s.Cols.toNat-1 by omega,a84,
     a3d h.sy om h.pf (GH _) (by rw [ci];omega),obs, <-a4H,hm,obs,hm,obs,ha,obs,hbt,obs,hdt,obs,hm,obs,c1c, <-XE,HW]
    by_cases z4:a8r s p (vg1 s t p root G src).2.1 (vg2 s t p root G W va vb vc src).2.1 (vr (vx3 s t p root G va vb vc src) 0) (vr (vx3 s t p root G va vb vc src) 1) (vr (vx3 s t p root G va vb vc src) 2) vw=(vg2 s t p root G W va vb vc src).2.2.1
    ·obtain ⟨src',hck,_⟩:=a7i (s:=rsM (vg2 s t p root G W va vb vc src).2.2.2 [vw]) (root:=root) (cl:=vw) (P:=(vg2 s t p root G W va vb vc src).2.1.take (s.Cols.toNat-1)) (nq:=t.Queries.toNat) (ρ:=t.Rate.toNat) (bits:=t.Grind.toNat) q.op htk om om om ((Few.take f5 _).mono om:Few (rsM (vg2 s t p root G W va vb vc src).2.2.2 [vw]) 999842) om
     rw [show ((s.Cols.toNat-1:Nat):Int)=s.Cols-1 by omega] at hck
     have hab2:lF (vg2 s t p root G W va vb vc src).2.2.2 [vw.1]=some (rsM (vg2 s t p root G W va vb vc src).2.2.2 [vw]):=R2 (g:=[vw]) f5.1 (by simp)
     rw [ae z4,aa (gu z4),hab2,obs,hck,obs]
    ·rw [aa z4,ae z4]
   ·rw [aa z3,ae z3]
    dsimp only
    rw [brb z3]
  ·rw [aa z2,ae z2]
 ·rw [aa z1,ae z1]
  dsimp only
  rw [brb z1]
end
section
def Cc (op:Int):Int:=if 4<=op/\op<=7 then 2 else if op=8 then 1 else 0
theorem b0U (op:Int):C0 op=some (Cc op):=by
 unfold C0 Cc
 rw [XM,obs]
 by_cases h1:4<=op/\op<=7
 ·rw [al h1,ae h1];rfl
 ·rw [ag h1,aa h1,bf]
  by_cases h2:op=8
  ·rw [bre h2,ae h2]
  ·rw [kX h2,aa h2]
def ga (l:List Gate) (op:Int):Nat:=l.countP fun g=>g.Op==op
theorem yc (l:List Gate) (x:Gate) (op:Int):ga (l++[x]) op=ga l op+(if (x.Op==op)=true then 1 else 0):=by
 simp only [ga,List.countP_append,List.countP_singleton]
theorem Af (l:List Gate) (op:Int):ga l op<=l.length:=pp
theorem b5h (b:Bool):KV b=some (if b=true then 1 else 0):=by cases b<;>rfl
theorem Kp {c:Circuit} {op:Int} (h:c.Gates.length<=1048576):rg c op=some (ga c.Gates op:Int):=by
 unfold rg
 have key:=bx (step:=lT op c.Gates) (fun j=>((ga (c.Gates.take j) op:Int),(j:Int))) c.Gates.length (e:=((ga c.Gates op:Int),(c.Gates.length:Int),false)) (fun j hj=> ?_) ?_
 ·rw [show ((0:Int),(0:Int))=((ga (c.Gates.take 0) op:Int),((0:Nat):Int)) from rfl,key];rfl
 ·have hle:=Af (c.Gates.take j) op
  rw [bi] at hle
  simp only [lT]
  rw [brd om,cj hj,obs,b5h,obs,db hj,yc]
  cases hb:(c.Gates[j].Op==op)
  ·rw [aa (by simp),aa (by simp),ak _ om om,ak _ om om];simp
  ·rw [ae rfl,ae rfl,ak _ om om,ak _ om om];simp
 ·simp only [lT]
  rw [brn om,ag om,bm]
def sY (g:Gate) (k:Int):Bool:=
 decide (1<=g.Op/\g.Op<=8)&&(br (decide (Cc g.Op>0)) (decide (0<=g.A/\g.A<=k-1)) (g.A==0)&&(br (decide (Cc g.Op>1)) (decide (0<=g.B/\g.B<=k-1)) (g.B==0)&&br (g.Op==3) (Gr g.K) (g.K==0)))
theorem Xm {g:Gate} {k:Int} (h0:0<=k) (h1:k<=1048576):Cq g k=some (sY g k):=by
 have hu:Cc g.Op=0\/Cc g.Op=1\/Cc g.Op=2:=by
  unfold Cc
  split
  ·simp
  ·split<;>simp
 unfold Cq sY
 simp only [XM,xt,b0U,obs,bne]
 rw [ak (k-1) om om]
 generalize Cc g.Op=u at hu ⊢
 generalize decide (0<=g.A/\g.A<=k-1)=a
 generalize decide (0<=g.B/\g.B<=k-1)=b
 generalize decide (1<=g.Op/\g.Op<=8)=o
 generalize (g.A==0)=za
 generalize (g.B==0)=zb
 generalize (g.Op==3)=o3
 generalize (g.K==0)=zk
 rcases hu with rfl|rfl|rfl<;>cases o<;>cases a<;>cases b<;>cases za<;>cases zb<;>cases o3<;>rfl
def C7 (l:List Gate):Bool:=decide (1<=l.length/\l.length<=15)&&((List.range l.length).all (fun k=>((l[k]?.map fun g=>sY g (k:Int)).getD false))&&decide ((ga l 2:Int)<=7))
structure OkC (l:List Gate):Prop where
 n1:1<=l.length
 n2:l.length<=15
 g: ∀(k:Nat) (h:k<l.length),sY l[k] (k:Int)=true
 p:ga l 2<=7
theorem b5u {l:List Gate} (h:C7 l=true):OkC l:=by
 simp only [C7,aC,aG,aB,bX] at h
 obtain ⟨⟨h1,h2⟩,h3,h4⟩:=h
 exact ⟨h1,h2,fun k hk=>by simpa [hk] using h3 k hk,by omega⟩
theorem G4 {c:Circuit} (h:c.Gates.length<=1048576):wd c=some (C7 c.Gates):=by
 unfold wd C7
 rw [XM,obs]
 by_cases h1:1<=c.Gates.length/\c.Gates.length<=15
 ·rw [al om,al h1,aH,bf,aO]
  have key:=Cw (step:=fN c.Gates) (fun k=>(k:Int)) c.Gates.length (fun k=>((c.Gates[k]?.map fun g=>sY g (k:Int)).getD false)) (fun k=> .inl ()) (e:= .inr ((c.Gates.length:Int),false)) (fun k hk hp=>by
   have hb:sY c.Gates[k] (k:Int)=true:=by simpa [hk] using hp
   simp only [fN]
   rw [brd om,cj hk,obs,Xm om om,obs,hb,aH,bf,ak _ om om];rfl)
   (fun k hk hp=>by
    have hb:sY c.Gates[k] (k:Int)=false:=by simpa [hk] using hp
    simp only [fN]
    rw [brd om,cj hk,obs,Xm om om,obs,hb,dv,cO])
   (by simp only [fN];rw [brn om,ag om])
  rcases key with ⟨h2,h3⟩|⟨k,hk,h2,_,h3⟩
  ·have e:Loop (fN c.Gates) 0=some (.inr ((c.Gates.length:Int),false)):=h3
   have ha:(List.range c.Gates.length).all (fun k=>((c.Gates[k]?.map fun g=>sY g (k:Int)).getD false))=true:=aB.2 fun k hk=>h2 k (bX.1 hk)
   rw [e,ha,obs,nT,Kp h,obs,aO]
  ·have e:Loop (fN c.Gates) 0=some (.inl ()):=h3
   have ha:(List.range c.Gates.length).all (fun k=>((c.Gates[k]?.map fun g=>sY g (k:Int)).getD false))=false:=tj.2 ⟨k,bX.2 hk,by rw [h2];simp⟩
   rw [e,ha,obs,l6,jO]
 ·rw [ag om,ag h1,dv,cO,jO]
def gvM (P I out:List Int) (p i:Nat) (g:Gate):Int:=
 if g.Op=1 then I.getD i 0 else if g.Op=2 then P.getD p 0 else if g.Op=3 then g.K else if g.Op=4 then aF (out.getD g.A.toNat 0) (out.getD g.B.toNat 0)
 else if g.Op=5 then sF (out.getD g.A.toNat 0) (out.getD g.B.toNat 0) else if g.Op=6 then mF (out.getD g.A.toNat 0) (out.getD g.B.toNat 0) else out.getD g.A.toNat 0
def rnM (P I:List Int) (l:List Gate):Nat->List Int
 |0=>[]
 |j+1=>rnM P I l j++[gvM P I (rnM P I l j) (ga (l.take j) 2) (ga (l.take j) 1) (l.getD j ⟨0,0,0,0⟩)]
theorem a02 {g:Gate} {k:Int} (h:sY g k=true):(1<=g.Op/\g.Op<=8)/\(4<=g.Op->0<=g.A/\g.A<=k-1)/\(4<=g.Op->g.Op<=7->0<=g.B/\g.B<=k-1)/\(g.Op=3->okF g.K):=by
 simp only [sY,aC,aG] at h
 obtain ⟨h1,h2,h3,h4⟩:=h
 refine ⟨h1,fun h=> ?_,fun h g7=> ?_,fun h=> ?_⟩
 ·rw [brd (by
   unfold Cc
   split
   ·omega
   ·split<;>omega)] at h2
  exact jX h2
 ·rw [brd (by unfold Cc;rw [ae ⟨h,g7⟩];omega)] at h3
  exact jX h3
 ·rw [bre h] at h4
  exact KU.1 h4
theorem Yq {l:List Gate} {j:Nat} {op:Int} (hj:j<l.length) (h:l[j].Op=op):ga (l.take j) op<ga l op:=by
 have h1:ga (l.take (j+1)) op<=ga l op:=List.Sublist.countP_le (List.take_sublist _ _)
 rw [db hj,yc,ae (by simp [h])] at h1
 omega
theorem Li {l:List Int} {k:Nat} (h:k<l.length):atL l (k:Int)=some (l.getD k 0):=by rw [cj h];simp [h]
theorem b8y {l:List Int} {k:Nat} (h:k<l.length):l[k]? =some (l.getD k 0):=by simp [h]
def c5S (v:List Int) (g:Gate):Bool:=br (g.Op==7) (v.getD g.A.toNat 0==v.getD g.B.toNat 0) true&&br (g.Op==8) (decide (v.getD g.A.toNat 0<=1)) true
theorem b6c {l:List Int} {i:Int} (h0:0<=i) (h1:i.toNat<l.length):atL l i=some (l.getD i.toNat 0):=by
 have:i=((i.toNat:Nat):Int):=by omega
 conv=>lhs;rw [this]
 exact Li h1
end
section
theorem Ks {k:Nat} (h:k<=9223372036854775807):IntKind.wrap .u64 (k:Int)=(k:Int):=by
 simp only [IntKind.wrap,IntKind.bits,IntKind.signed]
 simp
 omega
def lgM (m:Int):Nat:=if m<=2 then 2 else if m<=4 then 3 else if m<=8 then 4 else 5
theorem Q8 {p w:Int} {l:List Gate} {k:Nat} (hk:k<=50) (hp:0<=p) (hp1:p<=100):
 oY p w l ((k+1:Nat):Int)=if ((2^k:Nat):Int)<mx (p+1) w then some (.inl ((k+2:Nat):Int)) else some (.inr (((k+1:Nat):Int),false)):=by
 have e:IntKind.wrap .i64 (((k+1:Nat):Int)-1)=(k:Int):=by rw [ak _ om om];omega
 have e2:IntKind.wrap .i64 (((k+1:Nat):Int)+1)=((k+2:Nat):Int):=by rw [ak _ om om];omega
 simp only [oY]
 rw [e,e2,Ks om,brd om,De om,ak _ om om]
 by_cases h:((2^k:Nat):Int)<mx (p+1) w
 ·rw [brd h,ae h]
 ·rw [brn h,aa h,ag h]
theorem b8C {p w:Int} {l:List Gate} (hp:0<=p) (hp1:p<=7) (hw:w<=15):Loop (oY p w l) 2=some ((lgM (mx (p+1) w):Int),false):=by
 have hm:mx (p+1) w<=15:=by unfold mx;split<;>omega
 have s1:=Q8 (p:=p) (w:=w) (l:=l) (k:=1) om hp om
 have s2:=Q8 (p:=p) (w:=w) (l:=l) (k:=2) om hp om
 have s3:=Q8 (p:=p) (w:=w) (l:=l) (k:=3) om hp om
 have s4:=Q8 (p:=p) (w:=w) (l:=l) (k:=4) om hp om
 simp only [Nat.reducePow,Nat.reduceAdd] at s1 s2 s3 s4
 unfold lgM
 generalize mx (p+1) w=m at*
 by_cases h1:m<=2
 ·rw [ae h1];rw [aa om] at s1;exact bZ s1
 rw [aa h1];rw [ae om] at s1
 refine (cf s1).trans ?_
 by_cases h2:m<=4
 ·rw [ae h2];rw [aa om] at s2;exact bZ s2
 rw [aa h2];rw [ae om] at s2
 refine (cf s2).trans ?_
 by_cases h3:m<=8
 ·rw [ae h3];rw [aa om] at s3;exact bZ s3
 rw [aa h3];rw [ae om] at s3
 refine (cf s3).trans ?_
 rw [aa om] at s4;exact bZ s4
def lgC (l:List Gate):Nat:=lgM (mx ((ga l 2:Int)+1) ((l.length:Int)-(ga l 2:Int)))
theorem a2s {c:Circuit} (ok:OkC c.Gates):H3 c=some (lgC c.Gates:Int):=by
 have h1:=ok.n2
 have h2:=ok.p
 have h3:=Af c.Gates 2
 unfold H3
 rw [Kp om,obs,ak _ om om,b8C om om om];rfl
theorem b4V (m:Int):2<=lgM m/\lgM m<=5:=by
 unfold lgM
 split
 ·omega
 ·split
  ·omega
  ·split<;>omega
theorem b6U {m:Int} (h:m<=15):m<=((2^(lgM m-1):Nat):Int):=by
 unfold lgM
 split
 ·simpa
 ·split
  ·simpa
  ·split
   ·simpa
   ·simp;omega
def a4i (l:List Gate) (j:Nat):Int:=if (l.getD j ⟨0,0,0,0⟩).Op=2 then (ga (l.take j) 2:Int)+1 else ((2^(lgC l-1):Nat):Int)+((j:Int)-(ga (l.take j) 2:Int))
def iI (l:List Gate) (n:Nat):List Int:=(List.range n).map (a4i l)
theorem HO (l:List Gate) (n:Nat):(iI l n).length=n:=by simp [iI]
theorem Qe (l:List Gate) (n:Nat):iI l (n+1)=iI l n++[a4i l n]:=by simp [iI,gN]
theorem Yd {c:Circuit} (ok:OkC c.Gates):C8 c=some (iI c.Gates c.Gates.length,(lgC c.Gates:Int)):=by
 have h1:=ok.n2
 have h2:=b4V (mx ((ga c.Gates 2:Int)+1) ((c.Gates.length:Int)-(ga c.Gates 2:Int)))
 have h2':2<=lgC c.Gates/\lgC c.Gates<=5:=h2
 have e:IntKind.wrap .i64 ((lgC c.Gates:Int)-1)=((lgC c.Gates-1:Nat):Int):=by rw [ak _ om om];omega
 have hpw:=wX (lgC c.Gates-1) om
 unfold C8
 rw [a2s ok,obs,e,Ks om,brd om,De om]
 have key:=bx (step:=nk (lgC c.Gates:Int) ((2^(lgC c.Gates-1):Nat):Int) c.Gates) (fun j=>(iI c.Gates j,(ga (c.Gates.take j) 2:Int),(j:Int)-(ga (c.Gates.take j) 2:Int),(j:Int))) c.Gates.length (e:=(iI c.Gates c.Gates.length,(ga c.Gates 2:Int),(c.Gates.length:Int)-(ga c.Gates 2:Int),(c.Gates.length:Int),false)) (fun j hj=> ?_) ?_
 ·have:((iI c.Gates 0,(ga (c.Gates.take 0) 2:Int),((0:Nat):Int)-(ga (c.Gates.take 0) 2:Int),((0:Nat):Int)):List Int×Int×Int×Int)=([],0,0,0):=rfl
  rw [<-this,key];rfl
 ·have hd:c.Gates.getD j ⟨0,0,0,0⟩=c.Gates[j]:=by simp [hj]
  have l2:=Af (c.Gates.take j) 2
  rw [bi] at l2
  have hcl:=HO c.Gates j
  have hfit: ∀v:Int,(iI c.Gates j++[v]).length*8<=1099511627776:=fun v=>by rw [ab,hcl];simp;omega
  simp only [nk]
  rw [brd om,cj hj,obs,db hj,yc,Qe,a4i,hd]
  by_cases h:c.Gates[j].Op=2
  ·rw [bre h,bw (hfit _),ak _ om om,ak _ om om,ae h,ae (by simp [h])]
   simp;omega
  ·rw [kX h,bw (hfit _),ak _ om om,ak _ om om,ak _ om om,aa h,aa (by simp [h])]
   simp;omega
 ·simp only [nk]
  rw [brn om,ag om,bm]
end
section
def enP (row col:Int) (e:au):Bool:=decide (e.Row=row)&&decide (e.Col>col)
def enR (row col v:Int):List au->List au
 |[]=>[⟨row,col,v⟩]
 |e::R=>if enP row col e=true then e::enR row col v R
  else if e.Row=row/\e.Col=col then (if aF e.Value v=0 then R else ⟨row,col,aF e.Value v⟩::R)
  else ⟨row,col,v⟩::e::R
def enM (L:List au) (row col v:Int):List au:=(enR row col v L.reverse).reverse
theorem a7Z {row col v:Int} {R:List au}: ∀{T:List au},(∀e∈T,enP row col e=true)->enR row col v (T++R)=T++enR row col v R
 |[],_=>rfl
 |e::T,h=>by
  rw [eV,enR,ae (h e (by simp)),a7Z fun x hx=>h x (by simp [hx])];rfl
theorem a4I (row col:Int) (L:List au): ∃A T,L=A++T/\(∀e∈T,enP row col e=true)/\(A=[]\/ ∃B e,A=B++[e]/\enP row col e=false):=by
 refine ⟨(L.reverse.dropWhile (enP row col)).reverse,(L.reverse.takeWhile (enP row col)).reverse, ?_, ?_, ?_⟩
 ·rw [<-fZ,List.takeWhile_append_dropWhile,List.reverse_reverse]
 ·intro e he
  rw [List.mem_reverse] at he
  have: ∀(l:List au), ∀e∈l.takeWhile (enP row col),enP row col e=true:=by
   intro l
   induction l with
   |nil=>intro e he;cases he
   |cons x l ih=>
    intro e he
    rw [List.takeWhile_cons] at he
    split at he
    ·rename_i hx
     rcases bc.1 he with rfl|he
     ·exact hx
     ·exact ih e he
    ·cases he
  exact this _ e he
 ·have: ∀(l:List au),l.dropWhile (enP row col)=[]\/ ∃x r,l.dropWhile (enP row col)=x::r/\enP row col x=false:=by
   intro l
   induction l with
   |nil=>exact .inl rfl
   |cons x l ih=>
    rw [List.dropWhile_cons]
    split
    ·exact ih
    ·rename_i hx;exact .inr ⟨x,l,rfl,by simpa using hx⟩
  rcases this L.reverse with h|⟨x,r,h,hx⟩
  ·exact .inl (by rw [h];rfl)
  ·exact .inr ⟨r.reverse,x,by rw [h,List.reverse_cons],hx⟩
theorem ME {row col v:Int} {A T:List au} (h: ∀e∈T,enP row col e=true):enM (A++T) row col v=enM A row col v++T:=by
 unfold enM
 rw [fZ,a7Z (fun e he=>h e (by simpa using he)),fZ,List.reverse_reverse]
theorem a2V {α:Type} {A B:List α} {n:Int} (h:n=A.length):lh (A++B) 0 n=some A:=by
 subst h
 rw [mK om om (by simp;omega)]
 simp
theorem RG {α:Type} {A B:List α} {n m:Int} (h:n=A.length) (hm:m=((A++B).length:Nat)):lh (A++B) n m=some B:=by
 subst h;subst hm
 rw [mK om (by simp;omega) om]
 have:((A.length:Int)+(B.length:Int)).toNat-A.length=B.length:=by omega
 simp [this]
theorem b73 {row col v:Int} {A T:List au} (hT: ∀e∈T,enP row col e=true) (hA:A=[]\/ ∃B e,A=B++[e]/\enP row col e=false) (hl:(A++T).length<=1000000):
 Loop (jQ (A++T) row col v) (((A++T).length:Nat):Int)=some ((A.length:Int),false):=by
 have hlen:(A++T).length=A.length+T.length:=ab
 have key:=bx (step:=jQ (A++T) row col v) (fun j=>(((A.length+T.length-j:Nat)):Int)) T.length (e:=((A.length:Int),false)) (fun j hj=> ?_) ?_
 ·rw [hlen];simpa using key
 ·have hi:A.length+T.length-j-1<(A++T).length:=by omega
  have hp:enP row col (A++T)[A.length+T.length-j-1]=true:=by
   rw [List.getElem_append_right om]
   exact hT _ (aY _)
  simp only [enP,aC,aG] at hp
  have e:IntKind.wrap .i64 (((A.length+T.length-j:Nat):Int)-1)=((A.length+T.length-j-1:Nat):Int):=by rw [ak _ om om];omega
  simp only [jQ]
  rw [brd om,e,cj hi,obs,bre hp.1,obs,brd hp.2]
  have e3:A.length+T.length-j-1=A.length+T.length-(j+1):=by omega
  rw [e3]
 ·simp only [jQ]
  rw [show A.length+T.length-T.length=A.length by omega]
  rcases hA with rfl|⟨B,x,rfl,hx⟩
  ·rw [brn (by simp)]
  ·have e:IntKind.wrap .i64 (((B++[x]).length:Nat)-1:Int)=(B.length:Int):=by
    rw [ak _ om om];simp
   have hx':atL (B++[x]++T) (B.length:Int)=some x:=by
    rw [cj (by simp)];simp
   rw [brd (by simp),e,hx',obs]
   simp only [enP,hU,bz] at hx
   by_cases h1:x.Row=row
   ·have h2: ¬x.Col>col:=by rcases hx with hx|hx;exact absurd h1 hx;exact hx
    rw [bre h1,obs,brn h2,ag h2]
   ·rw [kX h1]
theorem UG {L:List au} {row col v:Int} (hl:L.length<=1000000) (hv:okF v) (hL: ∀e∈L,okF e.Value):aD L row col v=some (enM L row col v):=by
 obtain ⟨A,T,rfl,hT,hA⟩:=a4I row col L
 have hlen:(A++T).length=A.length+T.length:=ab
 unfold aD
 rw [b73 hT hA hl,obs,ME hT]
 dsimp only
 have f1: ∀M:List au,M.length<=2000000->M.length*24<=1099511627776:=fun M h=>by omega
 have ins:((lh (A++T) 0 (A.length:Int)).bind fun y=>br (cP (([]++y:List au)).length 24) (br (cP (([]++y)++[au.mk row col v]).length 24) ((lh (A++T) (A.length:Int) (((A++T).length:Nat):Int)).bind fun y2=>br (cP ((([]++y)++[au.mk row col v])++y2).length 24) (some ((([]++y)++[au.mk row col v])++y2)) none) none) none)=some (A++[au.mk row col v]++T):=by
  rw [a2V rfl,obs,bj,bw (f1 _ om),bw (f1 _ (by simp;omega)),RG rfl rfl,obs,bw (f1 _ (by simp;omega))]
 rcases hA with rfl|⟨B,x,rfl,hx⟩
 ·rw [brn (by simp),ins];rfl
 ·have e:IntKind.wrap .i64 (((B++[x]).length:Nat)-1:Int)=(B.length:Int):=by
   rw [ak _ om om];simp
  have hx':atL (B++[x]++T) (B.length:Int)=some x:=by
   rw [cj (by simp)];simp
  rw [brd (by simp),e,hx',obs]
  have hm:enM (B++[x]) row col v=if x.Row=row/\x.Col=col then (if aF x.Value v=0 then B else B++[⟨row,col,aF x.Value v⟩]) else B++[x]++[⟨row,col,v⟩]:=by
   unfold enM
   rw [fZ,oq,aU,enR,aa (by rw [hx];simp)]
   split
   ·split<;>simp
   ·simp
  rw [hm]
  by_cases h1:x.Row=row
  ·rw [bre h1,obs]
   by_cases h2:x.Col=col
   ·have hs:lh (B++[x]++T) 0 (B.length:Int)=some B:=by rw [ba];exact a2V rfl
    rw [bre h2,obs,G3 (hL x (by simp)) hv,obs,hs,obs,bj,bw (f1 _ (by simp at hl;omega)),ae ⟨h1,h2⟩]
    by_cases h3:aF x.Value v=0
    ·rw [fq h3,ae h3,RG rfl rfl,obs,bw (f1 _ (by simp at hl ⊢;omega))]
    ·rw [brb h3,aa h3,bw (f1 _ (by simp at hl ⊢;omega)),RG rfl rfl,obs,bw (f1 _ (by simp at hl ⊢;omega))]
   ·rw [kX h2,ins,aa (fun h=>h2 h.2)]
  ·rw [kX h1,ins,aa (fun h=>h1 h.1)]
end
section
end
section
structure MkR (l:List au) (row C:Int):Prop where
 ent: ∀x∈l,0<=x.Row/\x.Row<=row/\0<=x.Col/\x.Col<=C-1/\1<=x.Value/\x.Value<=2130706432
 srt:l.Pairwise ltE
theorem MkR.nil (row C:Int):MkR [] row C:=⟨fun x hx=>(by cases hx),List.Pairwise.nil⟩
theorem MkR.up {l:List au} {row C r:Int} (h:MkR l row C) (hr:row<=r):MkR l r C:=
 ⟨fun x hx=>by obtain ⟨a,b,c⟩:=h.ent x hx;exact ⟨a,by omega,c⟩,h.srt⟩
theorem MkR.okF {l:List au} {row C:Int} (h:MkR l row C): ∀e∈l,Fn.okF e.Value:=fun e he=>by
 obtain ⟨_,_,_,_,a,b⟩:=h.ent e he
 exact ⟨by omega,by omega⟩
theorem ZT {A T:List au} {n:au} {row C:Int} (h:MkR (A++T) row C) (hn:n.Row=row) (h0:0<=row) (hc:0<=n.Col/\n.Col<=C-1) (hv:1<=n.Value/\n.Value<=2130706432) (hA: ∀a∈A,ltE a n) (hT: ∀b∈T,ltE n b):MkR (A++[n]++T) row C:=by
 obtain ⟨p1,p2,p3⟩:=fJ.1 h.srt
 refine ⟨fun x hx=> ?_, ?_⟩
 ·simp only [aW,dT] at hx
  rcases hx with (hx|rfl)|hx
  ·exact h.ent x (by simp [hx])
  ·exact ⟨by omega,by omega,hc.1,hc.2,hv.1,hv.2⟩
  ·exact h.ent x (by simp [hx])
 ·rw [ba,fJ]
  refine ⟨p1, ?_,fun a ha b hb=> ?_⟩
  ·rw [aU,gw];exact ⟨hT,p2⟩
  ·rw [aU,bc] at hb
   rcases hb with rfl|hb
   ·exact hA a ha
   ·exact p3 a ha b hb
theorem MkR.sub {l l':List au} {row C:Int} (h:MkR l row C) (hs:List.Sublist l' l):MkR l' row C:=
 ⟨fun x hx=>h.ent x (hs.subset hx),h.srt.sublist hs⟩
theorem jc {l:List au} {row col v C:Int} (h:MkR l row C) (h0:0<=row) (hc:0<=col/\col<=C-1) (hv:1<=v/\v<=2130706432):MkR (enM l row col v) row C/\(enM l row col v).length<=l.length+1:=by
 obtain ⟨A,T,rfl,hT,hA⟩:=a4I row col l
 have hT': ∀b∈T,b.Row=row/\b.Col>col:=fun b hb=>by simpa [enP] using hT b hb
 rw [ME hT]
 rcases hA with rfl|⟨B,x,rfl,hx⟩
 ·refine ⟨ZT (A:=[]) (n:=⟨row,col,v⟩) h rfl h0 hc hv (fun a ha=>by cases ha) (fun b hb=> ?_),by simp [enM,enR]⟩
  have:=hT' b hb
  unfold ltE;dsimp only;omega
 ·have hm:enM (B++[x]) row col v=if x.Row=row/\x.Col=col then (if aF x.Value v=0 then B else B++[⟨row,col,aF x.Value v⟩]) else B++[x]++[⟨row,col,v⟩]:=by
   unfold enM
   rw [fZ,oq,aU,enR,aa (by rw [hx];simp)]
   split
   ·split<;>simp
   ·simp
  have hxe:=h.ent x (by simp)
  obtain ⟨p1,p2,p3⟩:=fJ.1 h.srt
  obtain ⟨q1,q2,q3⟩:=fJ.1 p1
  have hBx: ∀a∈B,ltE a x:=fun a ha=>q3 a ha x (by simp)
  rw [hm]
  split
  ·rename_i he
   have hs:MkR (B++T) row C:=h.sub (by simp)
   split
   ·exact ⟨hs,by simp;omega⟩
   ·rename_i hz
    have hk:=c0n x.Value v
    refine ⟨ZT hs rfl h0 hc ⟨(by have:=hk.1;show 1<=aF x.Value v;omega),hk.2⟩ (fun a ha=> ?_) (fun b hb=> ?_),by simp⟩
    ·have:=hBx a ha
     unfold ltE at*;dsimp only;omega
    ·have:=hT' b hb
     unfold ltE;dsimp only;omega
  ·rename_i he
   have hxn:ltE x ⟨row,col,v⟩:=by
    simp only [enP,hU,bz] at hx
    unfold ltE;dsimp only;omega
   refine ⟨ZT h rfl h0 hc hv (fun a ha=> ?_) (fun b hb=> ?_),by simp;omega⟩
   ·rcases aW.1 ha with ha|ha
    ·exact WP (hBx a ha) hxn
    ·rw [dT] at ha;subst ha;exact hxn
   ·have:=hT' b hb
    unfold ltE;dsimp only;omega
end
section
def syM (a b c:Int) (g:Gate) (r:Int) (A B C:List au):Int×List au×List au×List au:=
 if g.Op=1\/g.Op=2 then (r,A,B,C)
 else if g.Op=6 then (r+1,enM A r a 1,enM B r b 1,enM C r c 1)
 else if g.Op=4 then (r+1,enM (enM A r a 1) r b 1,enM B r 0 1,enM C r c 1)
 else if g.Op=5 then (r+1,enM (enM A r a 1) r b 2130706432,enM B r 0 1,enM C r c 1)
 else if g.Op=3 then (r+1,if g.K>0 then enM A r 0 g.K else A,enM B r 0 1,enM C r c 1)
 else if g.Op=7 then (r+1+1,enM (enM A r b 1) (r+1) a 1,enM (enM B r 0 1) (r+1) 0 1,enM (enM C r c 1) (r+1) c 1)
 else (r+1+1,enM (enM A r a 1) (r+1) a 1,enM (enM B r a 1) (r+1) 0 1,enM (enM C r c 1) (r+1) c 1)
theorem wi {L:List au} {row col v C:Int} (h:MkR L row C) (hl:L.length<=1000) (hv:1<=v/\v<=2130706432):aD L row col v=some (enM L row col v):=
 UG om ⟨by omega,hv.2⟩ h.okF
theorem b7S {t:List Int} {l:List Gate} {c2 c3 c4 c5 c6 c7 r CC:Int} {k:Nat} {A B C:List au} (ok:OkC l) (hk:k<l.length) (ht:t.length=l.length) (hr:0<=r) (hr1:r<=100)
 (hC:1<=CC) (hc: ∀i,i<l.length->0<=t.getD i 0/\t.getD i 0<=CC-1) (mA:MkR A r CC) (mB:MkR B r CC) (mC:MkR C r CC) (lA:A.length<=900) (lB:B.length<=900) (lC:C.length<=900):
 gX t l c2 c3 c4 c5 c6 c7 (r,(k:Int),A,B,C)=
  (fun S:Int×List au×List au×List au=>some (.inl (S.1,((k+1:Nat):Int),S.2.1,S.2.2.1,S.2.2.2))) (syM (t.getD l[k].A.toNat 0) (t.getD l[k].B.toNat 0) (t.getD k 0) l[k] r A B C):=by
 have hn:=ok.n2
 obtain ⟨g1,g2,g3,g4⟩:=a02 (ok.g k hk)
 have hck:=hc k hk
 simp only [gX]
 rw [brd om,cj hk,obs]
 generalize l[k]=g at*
 have ek:IntKind.wrap .i64 ((k:Int)+1)=((k+1:Nat):Int):=by rw [ak _ om om];omega
 have er:IntKind.wrap .i64 (r+1)=r+1:=ak _ om om
 have er2:IntKind.wrap .i64 (r+1+1)=r+1+1:=ak _ om om
 have one:(1:Int)<=1/\(1:Int)<=2130706432:=⟨by omega,by omega⟩
 have big:(1:Int)<=2130706432/\(2130706432:Int)<=2130706432:=⟨by omega,by omega⟩
 have c0:(0:Int)<=0/\(0:Int)<=CC-1:=⟨by omega,by omega⟩
 have hkk:atL t (k:Int)=some (t.getD k 0):=Li om
 rw [ek,er,er2,hkk]
 simp only [obs]
 have hop:g.Op=1\/g.Op=2\/g.Op=3\/g.Op=4\/g.Op=5\/g.Op=6\/g.Op=7\/g.Op=8:=by omega
 have ha:4<=g.Op->atL t g.A=some (t.getD g.A.toNat 0)/\0<=t.getD g.A.toNat 0/\t.getD g.A.toNat 0<=CC-1:=fun h=>by
  have:=g2 h
  exact ⟨b6c this.1 om,hc _ om⟩
 have hb:4<=g.Op->g.Op<=7->atL t g.B=some (t.getD g.B.toNat 0)/\0<=t.getD g.B.toNat 0/\t.getD g.B.toNat 0<=CC-1:=fun h h7=>by
  have:=g3 h h7
  exact ⟨b6c this.1 om,hc _ om⟩
 have dB:=wi (col:=0) mB om one
 have dC:=wi (col:=t.getD k 0) mC om one
 have nB:=jc mB hr c0 one
 have nC:=jc mC hr hck one
 have dB2:=wi (col:=0) (nB.1.up (r:=r+1) om) om one
 have dC2:=wi (col:=t.getD k 0) (nC.1.up (r:=r+1) om) om one
 rcases hop with h|h|h|h|h|h|h|h
 ·simp [syM,h,br]
 ·simp [syM,h,br]
 ·by_cases hK:g.K>0
  ·have dA:=wi (col:=0) (v:=g.K) mA om ⟨by omega,(g4 h).2⟩
   simp only [syM,h,al hK,dA,dB,dC,obs,ae hK];rfl
  ·simp only [syM,h,ag hK,dB,dC,obs,aa hK];rfl
 ·obtain ⟨a1,a2⟩:=ha om
  obtain ⟨b1,b2⟩:=hb om om
  have dA:=wi (col:=t.getD g.A.toNat 0) mA om one
  have nA:=jc mA hr a2 one
  have dA2:=wi (col:=t.getD g.B.toNat 0) nA.1 om one
  simp only [syM,h,a1,b1,dA,dA2,dB,dC,obs];rfl
 ·obtain ⟨a1,a2⟩:=ha om
  obtain ⟨b1,b2⟩:=hb om om
  have dA:=wi (col:=t.getD g.A.toNat 0) mA om one
  have nA:=jc mA hr a2 one
  have dA2:=wi (col:=t.getD g.B.toNat 0) nA.1 om big
  simp only [syM,h,a1,b1,dA,dA2,dB,dC,obs];rfl
 ·obtain ⟨a1,a2⟩:=ha om
  obtain ⟨b1,b2⟩:=hb om om
  have dA:=wi (col:=t.getD g.A.toNat 0) mA om one
  have dBb:=wi (col:=t.getD g.B.toNat 0) mB om one
  simp only [syM,h,a1,b1,dA,dBb,dC,obs];rfl
 ·obtain ⟨a1,a2⟩:=ha om
  obtain ⟨b1,b2⟩:=hb om om
  have dA:=wi (col:=t.getD g.B.toNat 0) mA om one
  have nA:=jc mA hr b2 one
  have dA2:=wi (col:=t.getD g.A.toNat 0) (nA.1.up (r:=r+1) om) om one
  simp only [syM,h,a1,b1,dA,dA2,dB,dB2,dC,dC2,obs];rfl
 ·obtain ⟨a1,a2⟩:=ha om
  have dA:=wi (col:=t.getD g.A.toNat 0) mA om one
  have nA:=jc mA hr a2 one
  have dA2:=wi (col:=t.getD g.A.toNat 0) (nA.1.up (r:=r+1) om) om one
  have dBa:=wi (col:=t.getD g.A.toNat 0) mB om one
  have nBa:=jc mB hr a2 one
  have dBa2:=wi (col:=0) (nBa.1.up (r:=r+1) om) om one
  simp only [syM,h,a1,dA,dA2,dBa,dBa2,dC,dC2,obs];rfl
end
section
structure Mk3 (r:Int) (A B C:List au) (CC:Int) (n:Nat):Prop where
 a:MkR A (r-1) CC
 b:MkR B (r-1) CC
 c:MkR C (r-1) CC
 la:A.length<=n
 lb:B.length<=n
 lc:C.length<=n
theorem Mk3.of {r' r:Int} {A B C:List au} {CC:Int} {n m:Nat} (e:r'-1=r) (a:MkR A r CC) (b:MkR B r CC) (c:MkR C r CC) (la:A.length<=n) (lb:B.length<=n) (lc:C.length<=n) (h:n<=m):Mk3 r' A B C CC m:=by
 subst e;exact ⟨a,b,c,by omega,by omega,by omega⟩
theorem c4q {a b c r CC:Int} {g:Gate} {A B C:List au} {n:Nat} (hr:0<=r) (hC:1<=CC) (ha:4<=g.Op->0<=a/\a<=CC-1) (hb:4<=g.Op->g.Op<=7->0<=b/\b<=CC-1) (hc:0<=c/\c<=CC-1) (hk:g.Op=3->okF g.K)
 (hop:1<=g.Op/\g.Op<=8) (m:Mk3 r A B C CC n):
 Mk3 (syM a b c g r A B C).1 (syM a b c g r A B C).2.1 (syM a b c g r A B C).2.2.1 (syM a b c g r A B C).2.2.2 CC (n+2)/\r<=(syM a b c g r A B C).1/\(syM a b c g r A B C).1<=r+2:=by
 have one:(1:Int)<=1/\(1:Int)<=2130706432:=⟨by omega,by omega⟩
 have big:(1:Int)<=2130706432/\(2130706432:Int)<=2130706432:=⟨by omega,by omega⟩
 have c0:(0:Int)<=0/\(0:Int)<=CC-1:=⟨by omega,by omega⟩
 have mA:=m.a.up (r:=r) om
 have mB:=m.b.up (r:=r) om
 have mC:=m.c.up (r:=r) om
 have la:=m.la
 have lb:=m.lb
 have lc:=m.lc
 have nB:=jc mB hr c0 one
 have nC:=jc mC hr hc one
 have nB2:=jc (nB.1.up (r:=r+1) om) om c0 one
 have nC2:=jc (nC.1.up (r:=r+1) om) om hc one
 unfold syM
 by_cases h1:g.Op=1\/g.Op=2
 ·rw [ae h1];exact ⟨⟨m.a,m.b,m.c,by dsimp only;omega,by dsimp only;omega,by dsimp only;omega⟩,by dsimp only;omega,by dsimp only;omega⟩
 rw [aa h1]
 by_cases h6:g.Op=6
 ·have nA:=jc mA hr (ha om) one
  have nb:=jc mB hr (hb om om) one
  rw [ae h6];exact ⟨Mk3.of (n:=n+1) (by dsimp only;omega) nA.1 nb.1 nC.1 (by dsimp only;omega) (by dsimp only;omega) (by dsimp only;omega) om,by dsimp only;omega,by dsimp only;omega⟩
 rw [aa h6]
 by_cases h4:g.Op=4
 ·have nA:=jc mA hr (ha om) one
  have nA2:=jc nA.1 hr (hb om om) one
  rw [ae h4];exact ⟨Mk3.of (n:=n+2) (by dsimp only;omega) nA2.1 nB.1 nC.1 (by dsimp only;omega) (by dsimp only;omega) (by dsimp only;omega) om,by dsimp only;omega,by dsimp only;omega⟩
 rw [aa h4]
 by_cases h5:g.Op=5
 ·have nA:=jc mA hr (ha om) one
  have nA2:=jc nA.1 hr (hb om om) big
  rw [ae h5];exact ⟨Mk3.of (n:=n+2) (by dsimp only;omega) nA2.1 nB.1 nC.1 (by dsimp only;omega) (by dsimp only;omega) (by dsimp only;omega) om,by dsimp only;omega,by dsimp only;omega⟩
 rw [aa h5]
 by_cases h3:g.Op=3
 ·rw [ae h3]
  by_cases hK:g.K>0
  ·have nA:=jc mA hr c0 (v:=g.K) ⟨by omega,(hk h3).2⟩
   rw [ae hK];exact ⟨Mk3.of (n:=n+1) (by dsimp only;omega) nA.1 nB.1 nC.1 (by dsimp only;omega) (by dsimp only;omega) (by dsimp only;omega) om,by dsimp only;omega,by dsimp only;omega⟩
  ·rw [aa hK];exact ⟨Mk3.of (n:=n+1) (by dsimp only;omega) mA nB.1 nC.1 (by dsimp only;omega) (by dsimp only;omega) (by dsimp only;omega) om,by dsimp only;omega,by dsimp only;omega⟩
 rw [aa h3]
 by_cases h7:g.Op=7
 ·have nA:=jc mA hr (hb om om) one
  have nA2:=jc (nA.1.up (r:=r+1) om) om (ha om) one
  rw [ae h7];exact ⟨Mk3.of (n:=n+2) (by dsimp only;omega) nA2.1 nB2.1 nC2.1 (by dsimp only;omega) (by dsimp only;omega) (by dsimp only;omega) om,by dsimp only;omega,by dsimp only;omega⟩
 ·have nA:=jc mA hr (ha om) one
  have nA2:=jc (nA.1.up (r:=r+1) om) om (ha om) one
  have nb:=jc mB hr (ha om) one
  have nb2:=jc (nb.1.up (r:=r+1) om) om c0 one
  rw [aa h7];exact ⟨Mk3.of (n:=n+2) (by dsimp only;omega) nA2.1 nb2.1 nC2.1 (by dsimp only;omega) (by dsimp only;omega) (by dsimp only;omega) om,by dsimp only;omega,by dsimp only;omega⟩
end
section
theorem a9r (l:List Gate) (k:Nat) (op:Int):ga l op<=ga (l.take k) op+(l.length-k):=by
 have h:ga l op=ga (l.take k) op+(l.drop k).countP (fun g=>g.Op==op):=by
  conv=>lhs;rw [<-pq k l]
  simp only [ga,List.countP_append]
 have:=pp (p:=fun g:Gate=>g.Op==op) (l:=l.drop k)
 rw [eQ] at this
 omega
theorem Nn (l:List Gate):2<=lgC l/\lgC l<=5:=b4V _
theorem a6L {n:Nat} (h:1<=n):((2^n:Nat):Int)=((2^(n-1):Nat):Int)+((2^(n-1):Nat):Int):=by
 obtain ⟨m,rfl⟩: ∃m,n=m+1:=⟨n-1,by omega⟩
 rw [j7,g8];omega
theorem c2g {a b c:Int} (h:mx a b<=c):a<=c/\b<=c:=by
 unfold mx at h
 split at h<;>constructor<;>omega
theorem b6b {l:List Gate} (ok:OkC l):(ga l 2:Int)+1<=((2^(lgC l-1):Nat):Int)/\(l.length:Int)-(ga l 2:Int)<=((2^(lgC l-1):Nat):Int):=by
 have h1:=ok.n2
 have h2:=ok.p
 have h3:=Af l 2
 have h4:mx ((ga l 2:Int)+1) ((l.length:Int)-(ga l 2:Int))<=15:=by unfold mx;split<;>omega
 exact c2g (b6U h4)
theorem a0Q {l:List Gate} (ok:OkC l) {j:Nat} (hj:j<l.length):0<=a4i l j/\a4i l j<=((2^lgC l:Nat):Int)-1:=by
 have hf:=b6b ok
 have hg:=Nn l
 have hp:=a6L (n:=lgC l) om
 have h1:ga (l.take j) 2<=j:=by have:=Af (l.take j) 2;rw [bi] at this;omega
 unfold a4i
 rw [show l.getD j ⟨0,0,0,0⟩=l[j] by simp [hj]]
 split
 ·rename_i h
  have:=Yq hj h
  omega
 ·rename_i h
  have h2:=a9r l (j+1) 2
  rw [db hj,yc,aa (by simpa using h)] at h2
  omega
theorem N0 {l:List Gate} {n i:Nat} (hi:i<n):(iI l n).getD i 0=a4i l i:=by
 simp [iI,hi]
def fdM (l:List Gate):Nat->Int×List au×List au×List au
 |0=>(0,[],[],[])
 |j+1=>syM ((iI l l.length).getD (l.getD j ⟨0,0,0,0⟩).A.toNat 0) ((iI l l.length).getD (l.getD j ⟨0,0,0,0⟩).B.toNat 0) ((iI l l.length).getD j 0) (l.getD j ⟨0,0,0,0⟩) (fdM l j).1 (fdM l j).2.1 (fdM l j).2.2.1 (fdM l j).2.2.2
theorem N6 {l:List Gate} (ok:OkC l): ∀j,j<=l.length->Mk3 (fdM l j).1 (fdM l j).2.1 (fdM l j).2.2.1 (fdM l j).2.2.2 ((2^lgC l:Nat):Int) (2*j)/\0<=(fdM l j).1/\(fdM l j).1<=2*j
 |0,_=>⟨⟨MkR.nil _ _,MkR.nil _ _,MkR.nil _ _,aw _,aw _,aw _⟩,Int.le_refl _,by simp [fdM]⟩
 |j+1,h=>by
  obtain ⟨m,h0,h1⟩:=N6 ok j om
  have hj:j<l.length:=by omega
  have hd:l.getD j ⟨0,0,0,0⟩=l[j]:=by simp [hj]
  obtain ⟨g1,g2,g3,g4⟩:=a02 (ok.g j hj)
  have hp:=wX (lgC l) (by have:=Nn l;omega)
  have hc: ∀a:Int,0<=a/\a<=(j:Int)-1->0<=(iI l l.length).getD a.toNat 0/\(iI l l.length).getD a.toNat 0<=((2^lgC l:Nat):Int)-1:=fun a ha=>by
   rw [N0 om];exact a0Q ok om
  have hcj:0<=(iI l l.length).getD j 0/\(iI l l.length).getD j 0<=((2^lgC l:Nat):Int)-1:=by
   rw [N0 hj];exact a0Q ok hj
  have:=c4q (a:=(iI l l.length).getD l[j].A.toNat 0) (b:=(iI l l.length).getD l[j].B.toNat 0) (c:=(iI l l.length).getD j 0) (g:=l[j]) h0 om (fun h=>hc _ (g2 h)) (fun h h7=>hc _ (g3 h h7)) hcj g4 g1 m
  rw [fdM,hd]
  refine ⟨?_,by omega,by omega⟩
  have e:2*(j+1)=2*j+2:=by omega
  rw [e];exact this.1
def rlM (r:Int):Nat:=if r<=2 then 1 else if r<=4 then 2 else if r<=8 then 3 else if r<=16 then 4 else 5
theorem c3b (r:Int):1<=rlM r/\rlM r<=5:=by
 unfold rlM;repeat' split
 all_goals omega
theorem b9w {r:Int} (h:r<=32):r<=((2^rlM r:Nat):Int):=by
 unfold rlM;repeat' split
 all_goals simp<;>omega
def Fo (l:List Gate):bk:=⟨(rlM (fdM l l.length).1:Int),(lgC l:Int),(ga l 2:Int),(fdM l l.length).2.1,(fdM l l.length).2.2.1,(fdM l l.length).2.2.2⟩
theorem a1Q {r:Int} {step:Int->Option (Int⊕(Bool×Int))} (hr:r<=32) (hs: ∀k:Nat,1<=k->k<=5->step (k:Int)=if ((2^k:Nat):Int)<r then some (.inl ((k+1:Nat):Int)) else some (.inr (false,(k:Int)))):
 Loop step 1=some (false,(rlM r:Int)):=by
 have s1:=hs 1 om om
 have s2:=hs 2 om om
 have s3:=hs 3 om om
 have s4:=hs 4 om om
 have s5:=hs 5 om om
 simp only [Nat.reducePow,Nat.reduceAdd] at s1 s2 s3 s4 s5
 unfold rlM
 by_cases h1:r<=2
 ·rw [ae h1];rw [aa om] at s1;exact bZ s1
 rw [aa h1];rw [ae om] at s1
 refine (cf s1).trans ?_
 by_cases h2:r<=4
 ·rw [ae h2];rw [aa om] at s2;exact bZ s2
 rw [aa h2];rw [ae om] at s2
 refine (cf s2).trans ?_
 by_cases h3:r<=8
 ·rw [ae h3];rw [aa om] at s3;exact bZ s3
 rw [aa h3];rw [ae om] at s3
 refine (cf s3).trans ?_
 by_cases h4:r<=16
 ·rw [ae h4];rw [aa om] at s4;exact bZ s4
 rw [aa h4];rw [ae om] at s4
 refine (cf s4).trans ?_
 rw [aa om] at s5;exact bZ s5
theorem R8 {c:Circuit} (ok:OkC c.Gates):wq c=some (Fo c.Gates):=by
 have hn:=ok.n2
 have hp:=wX (lgC c.Gates) (by have:=Nn c.Gates;omega)
 unfold wq
 rw [Yd ok,obs,Kp om,obs]
 dsimp only
 have key:=bx (step:=gX (iI c.Gates c.Gates.length) c.Gates 0 0 0 0 (lgC c.Gates:Int) (ga c.Gates 2:Int)) (fun j=>((fdM c.Gates j).1,(j:Int),(fdM c.Gates j).2.1,(fdM c.Gates j).2.2.1,(fdM c.Gates j).2.2.2)) c.Gates.length
  (e:=((fdM c.Gates c.Gates.length).1,(c.Gates.length:Int),false,(fdM c.Gates c.Gates.length).2.1,(fdM c.Gates c.Gates.length).2.2.1,(fdM c.Gates c.Gates.length).2.2.2)) (fun j hj=> ?_) ?_
 ·have e0:Loop (gX (iI c.Gates c.Gates.length) c.Gates 0 0 0 0 (lgC c.Gates:Int) (ga c.Gates 2:Int)) (0,0,[],[],[])=_:=key
  rw [e0,obs]
  dsimp only
  have hr:=(N6 ok c.Gates.length (aw _)).2
  rw [a1Q (r:=(fdM c.Gates c.Gates.length).1) om (fun k h1 h5=> ?_),obs]
  ·rfl
  ·simp only [qJ]
   have e2:IntKind.wrap .i64 ((k:Int)+1)=((k+1:Nat):Int):=by rw [ak _ om om];omega
   rw [Ks om,brd om,De om,e2]
   by_cases h:((2^k:Nat):Int)<(fdM c.Gates c.Gates.length).1
   ·rw [brd h,ae h]
   ·rw [brn h,aa h,ag h]
 ·obtain ⟨m,h0,h1⟩:=N6 ok j om
  have:=b7S (c2:=0) (c3:=0) (c4:=0) (c5:=0) (c6:=(lgC c.Gates:Int)) (c7:=(ga c.Gates 2:Int)) (r:=(fdM c.Gates j).1) (CC:=((2^lgC c.Gates:Nat):Int)) (A:=(fdM c.Gates j).2.1) (B:=(fdM c.Gates j).2.2.1) (C:=(fdM c.Gates j).2.2.2) ok hj (HO c.Gates c.Gates.length) h0 om om
   (fun i hi=>by rw [N0 hi];exact a0Q ok hi) (m.a.up om) (m.b.up om) (m.c.up om) (by have:=m.la;omega) (by have:=m.lb;omega) (by have:=m.lc;omega)
  have hd:c.Gates.getD j ⟨0,0,0,0⟩=c.Gates[j]:=by simp [hj]
  rw [this,fdM,hd]
 ·simp only [gX]
  rw [brn om,ag om]
end
section
def eT (e:au):Tri:=(e.Row,e.Col,e.Value)
structure Rm (r:Int) (m:List Tri) (L:List au):Prop where
 kd:mW m=true
 lt: ∀t∈m,t.1<r
 eq:L.map eT=fV (m.filter nzT)
theorem Rm.nil (r:Int):Rm r [] []:=⟨rfl,(fun t h=>by cases h),(List.length_eq_zero_iff.1 (my []).length_eq).symm⟩
theorem Rm.up {r r':Int} {m:List Tri} {L:List au} (h:Rm r m L) (hr:r<=r'):Rm r' m L:=⟨h.kd,fun t ht=>by have:=h.lt t ht;omega,h.eq⟩
theorem Rm.row {r:Int} {m:List Tri} {L:List au} (h:Rm r m L): ∀e∈L,e.Row<r:=fun e he=>by
 have:eT e∈fV (m.filter nzT):=by rw [<-h.eq];exact bu.2 ⟨e,he,rfl⟩
 have:=(my _).mem_iff.1 this
 exact h.lt _ (j4.1 this).1
theorem b1c {x y:Tri} (h:x.1≠y.1):FW x y=false:=by
 simp only [FW,bz];omega
theorem Rm.app {r:Int} {m N:List Tri} {L E:List au} (h:Rm r m L) (hN: ∀t∈N,t.1=r) (hk:mW N=true) (hE:(E.map eT).Perm (N.filter nzT)) (hs:(E.map eT).Pairwise (fun x y=>zl y x=false)):Rm (r+1) (m++N) (L++E):=by
 have hkd:mW (m++N)=true:=by
  refine tW (fJ.2 ⟨rk h.kd,rk hk,fun a ha b hb=>b1c ?_⟩)
  have:=h.lt a ha;have:=hN b hb;omega
 refine ⟨hkd,fun t ht=> ?_, ?_⟩
 ·rcases aW.1 ht with ht|ht
  ·have:=h.lt t ht;omega
  ·have:=hN t ht;omega
 ·refine DZ (tW ((rk hkd).filter _)) ?_ ?_
  ·rw [cJ,List.filter_append,h.eq]
   exact (my _).append hE
  ·rw [cJ]
   refine fJ.2 ⟨by rw [h.eq];exact DH _,hs,fun a ha b hb=> ?_⟩
   obtain ⟨e,he,rfl⟩:=bu.1 ha
   have h1:=h.row e he
   have h2:=hN b (j4.1 (hE.mem_iff.1 hb)).1
   rw [Ar]
   simp only [eT]
   omega
theorem Gv {r c:Int}: ∀{m:List Tri},(∀t∈m,t.1<r)->ia r c m=0
 |[],_=>rfl
 | (x,y,v)::m,h=>by
   have h0:=h (x,y,v) (by simp)
   simp only at h0
   rw [ia,aa om];exact Gv (fun t ht=>h t (by simp [ht]))
theorem Gs {r c v:Int}: ∀{m:List Tri},(∀t∈m,t.1<r)->iB r c v m=m++[(r,c,v)]
 |[],_=>rfl
 | (x,y,u)::m,h=>by
   have h0:=h (x,y,u) (by simp)
   simp only at h0
   rw [iB,aa om,Gs (fun t ht=>h t (by simp [ht]))];rfl
theorem Sm {r c:Int} {N:List Tri}: ∀{m:List Tri},(∀t∈m,t.1<r)->ia r c (m++N)=ia r c N
 |[],_=>rfl
 | (x,y,v)::m,h=>by
   have h0:=h (x,y,v) (by simp)
   simp only at h0
   rw [eV,ia,aa om];exact Sm (fun t ht=>h t (by simp [ht]))
theorem a1L {r c v:Int} {N:List Tri}: ∀{m:List Tri},(∀t∈m,t.1<r)->iB r c v (m++N)=m++iB r c v N
 |[],_=>rfl
 | (x,y,u)::m,h=>by
   have h0:=h (x,y,u) (by simp)
   simp only at h0
   rw [eV,iB,aa om,a1L (fun t ht=>h t (by simp [ht]))];rfl
theorem b9C {v:Int} (h:okF v):aF 0 v=v:=by
 unfold aF okF at*;omega
theorem a0H {r c v:Int} {L:List au} (h: ∀e∈L,e.Row<r):enM L r c v=L++[⟨r,c,v⟩]:=by
 unfold enM
 have: ∀R:List au,(∀e∈R,e.Row<r)->enR r c v R=⟨r,c,v⟩::R:=by
  intro R hR
  cases R with
  |nil=>rfl
  |cons e R=>
   have:=hR e (by simp)
   have h1:enP r c e=false:=by
    simp only [enP,hU,bz];omega
   rw [enR,aa (by rw [h1];simp),aa om]
 rw [this _ (fun e he=>h e (by simpa using he))]
 simp
theorem b94 {r c1 c2 v1 v2:Int} {L:List au} (h: ∀e∈L,e.Row<r):enM (L++[⟨r,c1,v1⟩]) r c2 v2=
 if c1>c2 then L++[⟨r,c2,v2⟩,⟨r,c1,v1⟩] else if c1=c2 then (if aF v1 v2=0 then L else L++[⟨r,c2,aF v1 v2⟩]) else L++[⟨r,c1,v1⟩,⟨r,c2,v2⟩]:=by
 by_cases h1:c1>c2
 ·rw [ae h1,ME (fun e he=>by simp at he;subst he;simp [enP];omega),a0H h]
  simp
 ·rw [aa h1]
  unfold enM
  rw [fZ,oq,aU,enR,aa (by simp [enP];omega)]
  by_cases h2:c1=c2
  ·rw [ae ⟨rfl,h2⟩,ae h2]
   split<;>simp
  ·rw [aa (fun h=>h2 h.2),aa h2]
   simp
theorem c5f {r c v:Int} (h:v≠0):nzT (r,c,v)=true:=by simp [nzT,h]
theorem b3o {r c v:Int} (h:v≠0):([(r,c,v)]:List Tri).filter nzT=[(r,c,v)]:=by rw [kn,ae (c5f h)];rfl
theorem c0c {r c:Int}:([(r,c,0)]:List Tri).filter nzT=[]:=rfl
theorem Rm.one {r c v:Int} {m:List Tri} {L:List au} (h:Rm r m L) (hv:v≠0):Rm (r+1) (iB r c v m) (enM L r c v):=by
 rw [Gs h.lt,a0H h.row]
 refine h.app (fun t ht=>by simp at ht;subst ht;rfl) rfl ?_ ?_
 ·rw [b3o hv];exact mE _
 ·simp
theorem Rm.add1 {r c v:Int} {m:List Tri} {L:List au} (h:Rm r m L) (hv:1<=v/\v<=2130706432):Rm (r+1) (iB r c (aF (ia r c m) v) m) (enM L r c v):=by
 rw [Gv h.lt,b9C ⟨by omega,hv.2⟩];exact h.one om
theorem Rm.add0 {r c:Int} {m:List Tri} {L:List au} (h:Rm r m L):Rm (r+1) (iB r c (aF (ia r c m) 0) m) L:=by
 rw [Gv h.lt,b9C ⟨by omega,by omega⟩,Gs h.lt]
 have:=h.app (N:=[(r,c,0)]) (E:=[]) (fun t ht=>by simp at ht;subst ht;rfl) rfl (by rw [c0c];exact mE _) (by simp)
 simpa using this
theorem Rm.add2 {r c1 c2 v1 v2:Int} {m:List Tri} {L:List au} (h:Rm r m L) (h1:1<=v1/\v1<=2130706432) (h2:1<=v2/\v2<=2130706432):
 Rm (r+1) (iB r c2 (aF (ia r c2 (iB r c1 (aF (ia r c1 m) v1) m)) v2) (iB r c1 (aF (ia r c1 m) v1) m)) (enM (enM L r c1 v1) r c2 v2):=by
 rw [Gv h.lt,b9C (v:=v1) ⟨by omega,h1.2⟩,Gs h.lt,Sm h.lt,a1L h.lt,a0H h.row,b94 h.row]
 by_cases hc:c1=c2
 ·subst hc
  rw [aa om,ae rfl]
  have e1:ia r c1 [(r,c1,v1)]=v1:=by simp [ia]
  have e2: ∀u,iB r c1 u [(r,c1,v1)]=[(r,c1,u)]:=fun u=>by simp [iB]
  rw [e1,e2]
  by_cases hz:aF v1 v2=0
  ·rw [ae hz,hz]
   have:=h.app (N:=[(r,c1,0)]) (E:=[]) (fun t ht=>by simp at ht;subst ht;rfl) rfl (by rw [c0c];exact mE _) (by simp)
   simpa using this
  ·rw [aa hz]
   refine h.app (fun t ht=>by simp at ht;subst ht;rfl) rfl ?_ ?_
   ·rw [b3o hz];exact mE _
   ·simp
 ·have e1:ia r c2 [(r,c1,v1)]=0:=by simp [ia];omega
  have e2: ∀u,iB r c2 u [(r,c1,v1)]=[(r,c1,v1),(r,c2,u)]:=fun u=>by
   rw [iB,aa om];rfl
  rw [e1,e2,b9C ⟨by omega,h2.2⟩]
  have hN: ∀t∈([(r,c1,v1),(r,c2,v2)]:List Tri),t.1=r:=fun t ht=>by simp at ht;rcases ht with rfl|rfl<;>rfl
  have hk:mW [(r,c1,v1),(r,c2,v2)]=true:=by simp [mW,FW];omega
  have hf:([(r,c1,v1),(r,c2,v2)]:List Tri).filter nzT=[(r,c1,v1),(r,c2,v2)]:=by
   rw [kn,ae (c5f om),b3o om]
  by_cases hgt:c1>c2
  ·rw [ae hgt]
   refine h.app hN hk ?_ ?_
   ·rw [hf];exact List.Perm.swap _ _ _
   ·simp only [aS,ee,eT,gw,dT,forall_eq,Ar]
    refine ⟨by omega,by simp⟩
  ·rw [aa hgt,aa hc]
   refine h.app hN hk ?_ ?_
   ·rw [hf];exact mE _
   ·simp only [aS,ee,eT,gw,dT,forall_eq,Ar]
    refine ⟨by omega,by simp⟩
theorem oH (r c v:Int): ∀m:List Tri,(iB r c v m).length<=m.length+1
 |[]=>by simp [iB]
 | (x,y,u)::m=>by
   rw [iB];split
   ·simp
   ·have:=oH r c v m;simp;omega
theorem Yz {r c:Int} {m:List Tri} (h: ∀t∈m,t.1<r):okF (ia r c m):=by rw [Gv h];exact ⟨by omega,by omega⟩
theorem Rm.ent {r:Int} {m:List Tri} {L:List au} (h:Rm r m L) (hl:m.length<1073741824):tD m=some (L,m):=by
 unfold tD
 rw [h.kd,aO,brd hl, <-h.eq]
 have:(L.map eT).map A3=L:=by
  rw [jr]
  have: ∀e∈L,(A3∘eT) e=e:=fun e _=>rfl
  rw [cC this];simp
 rw [this]
end
section
theorem NJ {g:Gate} {k:Int} (h0:0<=k) (h1:k<=1048576):FL g k=some (sY g k):=by
 unfold FL sY
 simp only [a2b,xA,obs]
 rw [ak (k-1) om om]
 obtain ⟨op,a,b,c⟩:=g
 dsimp only
 generalize decide (0<=a/\a<=k-1)=x
 generalize decide (0<=b/\b<=k-1)=y
 generalize Gr c=z
 generalize (a==0)=za
 generalize (b==0)=zb
 generalize (c==0)=zc
 have hop:op=3\/op=4\/op=5\/op=6\/op=7\/op=8\/(op≠3/\op≠4/\op≠5/\op≠6/\op≠7/\op≠8):=by omega
 rcases hop with rfl|rfl|rfl|rfl|rfl|rfl|⟨h3,h4,h5,h6,h7,h8⟩
 ·cases x<;>cases y<;>cases z<;>cases za<;>cases zb<;>cases zc<;>rfl
 ·cases x<;>cases y<;>cases z<;>cases za<;>cases zb<;>cases zc<;>rfl
 ·cases x<;>cases y<;>cases z<;>cases za<;>cases zb<;>cases zc<;>rfl
 ·cases x<;>cases y<;>cases z<;>cases za<;>cases zb<;>cases zc<;>rfl
 ·cases x<;>cases y<;>cases z<;>cases za<;>cases zb<;>cases zc<;>rfl
 ·cases x<;>cases y<;>cases z<;>cases za<;>cases zb<;>cases zc<;>rfl
 ·have hu:Cc op=0:=by unfold Cc;rw [aa om,aa h8]
  have e3:(op==3)=false:=by simpa using h3
  have e4:(op==4)=false:=by simpa using h4
  have e5:(op==5)=false:=by simpa using h5
  have e6:(op==6)=false:=by simpa using h6
  have e7:(op==7)=false:=by simpa using h7
  have e8:(op==8)=false:=by simpa using h8
  rw [hu,e3,e4,e5,e6,e7,e8]
  generalize decide (1<=op/\op<=8)=o
  cases o<;>cases za<;>cases zb<;>cases zc<;>rfl
theorem RB {c:Circuit} {op:Int} (h:c.Gates.length<=1048576):iG c op=some (ga c.Gates op:Int):=by
 unfold iG
 have key:=bx (step:=fF op c.Gates (c.Gates.length:Int) c.Gates) (fun j=>((ga (c.Gates.take j) op:Int),(j:Int))) c.Gates.length (e:=((ga c.Gates op:Int),(c.Gates.length:Int),false)) (fun j hj=> ?_) ?_
 ·rw [show ((0:Int),(0:Int))=((ga (c.Gates.take 0) op:Int),((0:Nat):Int)) from rfl,key];rfl
 ·have hle:=Af (c.Gates.take j) op
  rw [bi] at hle
  simp only [fF]
  rw [brd om,cj hj,obs,db hj,yc]
  cases hb:(c.Gates[j].Op==op)
  ·rw [bf,aa (by simp),ak _ om om];simp
  ·rw [cO,ae rfl,ak _ om om,ak _ om om];simp
 ·simp only [fF]
  rw [brn om,ag om,bm]
theorem Gk {c:Circuit} (h:c.Gates.length<=1048576):wm c=some (C7 c.Gates):=by
 unfold wm C7
 rw [a2b,obs]
 by_cases h1:1<=c.Gates.length/\c.Gates.length<=15
 ·rw [al om,al h1,aH,bf,aO]
  have key:=Cw (step:=fP c.Gates (c.Gates.length:Int) c.Gates) (fun k=>(k:Int)) c.Gates.length (fun k=>((c.Gates[k]?.map fun g=>sY g (k:Int)).getD false)) (fun k=> .inl ((c.Gates.getD k ⟨0,0,0,0⟩).Op,(c.Gates.getD k ⟨0,0,0,0⟩).A,(c.Gates.getD k ⟨0,0,0,0⟩).B,(c.Gates.getD k ⟨0,0,0,0⟩).K)) (e:= .inr ((c.Gates.length:Int),false)) (fun k hk hp=>by
   have hb:sY c.Gates[k] (k:Int)=true:=by simpa [hk] using hp
   simp only [fP]
   rw [brd om,cj hk,obs,NJ om om,obs,hb,aH,bf,ak _ om om];rfl)
   (fun k hk hp=>by
    have hb:sY c.Gates[k] (k:Int)=false:=by simpa [hk] using hp
    have hd:c.Gates.getD k ⟨0,0,0,0⟩=c.Gates[k]:=by simp [hk]
    simp only [fP]
    rw [brd om,cj hk,obs,NJ om om,obs,hb,dv,cO,hd])
   (by simp only [fP];rw [brn om,ag om])
  rcases key with ⟨h2,h3⟩|⟨k,hk,h2,_,h3⟩
  ·have e:Loop (fP c.Gates (c.Gates.length:Int) c.Gates) 0=some (.inr ((c.Gates.length:Int),false)):=h3
   have ha:(List.range c.Gates.length).all (fun k=>((c.Gates[k]?.map fun g=>sY g (k:Int)).getD false))=true:=aB.2 fun k hk=>h2 k (bX.1 hk)
   rw [e,ha,obs,nT,RB h,obs,aO]
  ·have e:Loop (fP c.Gates (c.Gates.length:Int) c.Gates) 0=some (.inl _):=h3
   have ha:(List.range c.Gates.length).all (fun k=>((c.Gates[k]?.map fun g=>sY g (k:Int)).getD false))=false:=tj.2 ⟨k,bX.2 hk,by rw [h2];simp⟩
   rw [e,ha,obs,l6,jO]
 ·rw [ag om,ag h1,dv,cO,jO]
theorem a8u {c v a2 a3 r:Int} {mA mB mC:List Tri} (h0:0<=r) (h1:r<=1000) (hm:okF (ia r c mA)) (hv:okF v):
 dP [(c,v)] a2 a3 r mA mB mC=some (r+1,iB r c (aF (ia r c mA) v) mA,iB r a2 1 mB,iB r a3 1 mC):=by
 unfold dP
 have s1:dn mB mC a2 a3 [(c,v)] (([(c,v)]:List (Int×Int)).length:Int) r (mA,0)=some (.inl (iB r c (aF (ia r c mA) v) mA,1)):=by
  simp only [dn]
  rw [brd (by simp)]
  show (Option.bind (some (c,v)) _)=_
  rw [obs,yx hm hv,obs,ak _ om om];rfl
 have s2:dn mB mC a2 a3 [(c,v)] (([(c,v)]:List (Int×Int)).length:Int) r (iB r c (aF (ia r c mA) v) mA,1)=some (.inr (iB r c (aF (ia r c mA) v) mA,1,false)):=by
  simp only [dn]
  rw [brn (by simp),ag (by simp)]
 rw [cf s1,bZ s2,obs,ak _ om om]
theorem b9f {c1 v1 c2 v2 a2 a3 r:Int} {mA mB mC:List Tri} (h0:0<=r) (h1:r<=1000) (hm:okF (ia r c1 mA)) (hv1:okF v1) (hm2:okF (ia r c2 (iB r c1 (aF (ia r c1 mA) v1) mA))) (hv2:okF v2):
 dP [(c1,v1),(c2,v2)] a2 a3 r mA mB mC=some (r+1,iB r c2 (aF (ia r c2 (iB r c1 (aF (ia r c1 mA) v1) mA)) v2) (iB r c1 (aF (ia r c1 mA) v1) mA),iB r a2 1 mB,iB r a3 1 mC):=by
 unfold dP
 have s1:dn mB mC a2 a3 [(c1,v1),(c2,v2)] (([(c1,v1),(c2,v2)]:List (Int×Int)).length:Int) r (mA,0)=some (.inl (iB r c1 (aF (ia r c1 mA) v1) mA,1)):=by
  simp only [dn]
  rw [brd (by simp)]
  show (Option.bind (some (c1,v1)) _)=_
  rw [obs,yx hm hv1,obs,ak _ om om];rfl
 generalize iB r c1 (aF (ia r c1 mA) v1) mA=m1 at*
 have s2:dn mB mC a2 a3 [(c1,v1),(c2,v2)] (([(c1,v1),(c2,v2)]:List (Int×Int)).length:Int) r (m1,1)=some (.inl (iB r c2 (aF (ia r c2 m1) v2) m1,2)):=by
  simp only [dn]
  rw [brd (by simp)]
  show (Option.bind (some (c2,v2)) _)=_
  rw [obs,yx hm2 hv2,obs,ak _ om om];rfl
 have s3:dn mB mC a2 a3 [(c1,v1),(c2,v2)] (([(c1,v1),(c2,v2)]:List (Int×Int)).length:Int) r (iB r c2 (aF (ia r c2 m1) v2) m1,2)=some (.inr (iB r c2 (aF (ia r c2 m1) v2) m1,2,false)):=by
  simp only [dn]
  rw [brn (by simp),ag (by simp)]
 rw [cf s1,cf s2,bZ s3,obs,ak _ om om]
theorem a3T {r c1 c2 u:Int} {m:List Tri} (h: ∀t∈m,t.1<r) (hu:okF u):okF (ia r c2 (iB r c1 u m)):=by
 rw [Gs h,Sm h]
 by_cases hc:c1=c2
 ·have:ia r c2 [(r,c1,u)]=u:=by simp [ia,hc]
  rw [this];exact hu
 ·have:ia r c2 [(r,c1,u)]=0:=by simp [ia];exact fun e=>absurd e.symm hc
  rw [this];exact ⟨by omega,by omega⟩
structure R3 (r:Int) (mA mB mC:List Tri) (A B C:List au) (n:Nat):Prop where
 a:Rm r mA A
 b:Rm r mB B
 c:Rm r mC C
 la:mA.length<=n
 lb:mB.length<=n
 lc:mC.length<=n
theorem HB {c v a2 a3 r:Int} {mA mB mC:List Tri} {A B C:List au} {n:Nat} (h0:0<=r) (h1:r<=1000) (hv:1<=v/\v<=2130706432) (h:R3 r mA mB mC A B C n):
 ∃mA' mB' mC',dP [(c,v)] a2 a3 r mA mB mC=some (r+1,mA',mB',mC')/\R3 (r+1) mA' mB' mC' (enM A r c v) (enM B r a2 1) (enM C r a3 1) (n+1):=
 ⟨_,_,_,a8u h0 h1 (Yz h.a.lt) ⟨by omega,hv.2⟩,h.a.add1 hv,h.b.one om,h.c.one om,by have:=oH r c (aF (ia r c mA) v) mA;have:=h.la;omega,by have:=oH r a2 1 mB;have:=h.lb;omega,by have:=oH r a3 1 mC;have:=h.lc;omega⟩
theorem b83 {c a2 a3 r:Int} {mA mB mC:List Tri} {A B C:List au} {n:Nat} (h0:0<=r) (h1:r<=1000) (h:R3 r mA mB mC A B C n):
 ∃mA' mB' mC',dP [(c,0)] a2 a3 r mA mB mC=some (r+1,mA',mB',mC')/\R3 (r+1) mA' mB' mC' A (enM B r a2 1) (enM C r a3 1) (n+1):=
 ⟨_,_,_,a8u h0 h1 (Yz h.a.lt) ⟨by omega,by omega⟩,h.a.add0,h.b.one om,h.c.one om,by have:=oH r c (aF (ia r c mA) 0) mA;have:=h.la;omega,by have:=oH r a2 1 mB;have:=h.lb;omega,by have:=oH r a3 1 mC;have:=h.lc;omega⟩
theorem a8U {c1 v1 c2 v2 a2 a3 r:Int} {mA mB mC:List Tri} {A B C:List au} {n:Nat} (h0:0<=r) (h1:r<=1000) (hv1:1<=v1/\v1<=2130706432) (hv2:1<=v2/\v2<=2130706432) (h:R3 r mA mB mC A B C n):
 ∃mA' mB' mC',dP [(c1,v1),(c2,v2)] a2 a3 r mA mB mC=some (r+1,mA',mB',mC')/\R3 (r+1) mA' mB' mC' (enM (enM A r c1 v1) r c2 v2) (enM B r a2 1) (enM C r a3 1) (n+2):=
 ⟨_,_,_,b9f h0 h1 (Yz h.a.lt) ⟨by omega,hv1.2⟩ (a3T h.a.lt (c0n _ _)) ⟨by omega,hv2.2⟩,h.a.add2 hv1 hv2,h.b.one om,h.c.one om,by
   have:=oH r c1 (aF (ia r c1 mA) v1) mA
   have:=oH r c2 (aF (ia r c2 (iB r c1 (aF (ia r c1 mA) v1) mA)) v2) (iB r c1 (aF (ia r c1 mA) v1) mA)
   have:=h.la;omega,by have:=oH r a2 1 mB;have:=h.lb;omega,by have:=oH r a3 1 mC;have:=h.lc;omega⟩
theorem R3.up {r:Int} {mA mB mC:List Tri} {A B C:List au} {n m:Nat} (h:R3 r mA mB mC A B C n) (hn:n<=m):R3 r mA mB mC A B C m:=⟨h.a,h.b,h.c,by have:=h.la;omega,by have:=h.lb;omega,by have:=h.lc;omega⟩
theorem vM {t:List Int} {p v:Int} (h:0<=p/\p<t.length):dI p v t=some [(t.getD p.toNat 0,v)]:=by
 unfold dI
 obtain ⟨k,rfl⟩: ∃k:Nat,p=k:=⟨p.toNat,by omega⟩
 rw [Li om,obs,aK]
theorem c09 {t:List Int} {p:Int} (h:0<=p/\p<t.length):atL t p=some (t.getD p.toNat 0):=by
 obtain ⟨k,rfl⟩: ∃k:Nat,p=k:=⟨p.toNat,by omega⟩
 rw [Li om,aK]
theorem b0x {t:List Int} {g:Gate} {k c r:Int} {mA mB mC:List Tri} {A B C:List au} {n:Nat} (hg:sY g k=true) (hk:k<t.length) (h0:0<=r) (h1:r<=100) (h:R3 r mA mB mC A B C n):
 ∃mA' mB' mC',sq g c t r mA mB mC=some ((syM (t.getD g.A.toNat 0) (t.getD g.B.toNat 0) c g r A B C).1,mA',mB',mC')/\
  R3 (syM (t.getD g.A.toNat 0) (t.getD g.B.toNat 0) c g r A B C).1 mA' mB' mC' (syM (t.getD g.A.toNat 0) (t.getD g.B.toNat 0) c g r A B C).2.1 (syM (t.getD g.A.toNat 0) (t.getD g.B.toNat 0) c g r A B C).2.2.1 (syM (t.getD g.A.toNat 0) (t.getD g.B.toNat 0) c g r A B C).2.2.2 (n+2):=by
 obtain ⟨g1,g2,g3,g4⟩:=a02 hg
 have one:(1:Int)<=1/\(1:Int)<=2130706432:=⟨by omega,by omega⟩
 have big:(1:Int)<=2130706432/\(2130706432:Int)<=2130706432:=⟨by omega,by omega⟩
 unfold sq
 have hop:g.Op=1\/g.Op=2\/g.Op=3\/g.Op=4\/g.Op=5\/g.Op=6\/g.Op=7\/g.Op=8:=by omega
 rcases hop with e|e|e|e|e|e|e|e
 ·rw [kX om,kX om,kX om,kX om,kX om,kX om]
  simp only [syM,e]
  exact ⟨_,_,_,rfl,h.up om⟩
 ·rw [kX om,kX om,kX om,kX om,kX om,kX om]
  simp only [syM,e]
  exact ⟨_,_,_,rfl,h.up om⟩
 ·have hk3:=g4 e
  rw [bre e]
  by_cases hp:g.K>0
  ·obtain ⟨x,y,z,e1,e2⟩:=HB (c:=0) (v:=g.K) (a2:=0) (a3:=c) h0 om ⟨by omega,hk3.2⟩ h
   rw [e1,obs]
   simp only [syM,e,ae hp]
   exact ⟨_,_,_,rfl,e2.up om⟩
  ·have hz:g.K=0:=by have:=hk3.1;omega
   obtain ⟨x,y,z,e1,e2⟩:=b83 (c:=0) (a2:=0) (a3:=c) h0 om h
   rw [hz,e1,obs]
   simp only [syM,e,aa hp]
   exact ⟨_,_,_,rfl,e2.up om⟩
 ·have a:=g2 om
  have b:=g3 om om
  rw [kX om,bre e,vM om,obs,vM om,obs,bw (by simp)]
  obtain ⟨x,y,z,e1,e2⟩:=a8U (c1:=t.getD g.A.toNat 0) (v1:=1) (c2:=t.getD g.B.toNat 0) (v2:=1) (a2:=0) (a3:=c) h0 om one one h
  rw [aU,e1,obs]
  simp only [syM,e]
  exact ⟨_,_,_,rfl,e2⟩
 ·have a:=g2 om
  have b:=g3 om om
  rw [kX om,kX om,bre e,vM om,obs,vM om,obs,bw (by simp)]
  obtain ⟨x,y,z,e1,e2⟩:=a8U (c1:=t.getD g.A.toNat 0) (v1:=1) (c2:=t.getD g.B.toNat 0) (v2:=2130706432) (a2:=0) (a3:=c) h0 om one big h
  rw [aU,e1,obs]
  simp only [syM,e]
  exact ⟨_,_,_,rfl,e2⟩
 ·have a:=g2 om
  have b:=g3 om om
  rw [kX om,kX om,kX om,bre e,vM om,obs,c09 om,obs]
  obtain ⟨x,y,z,e1,e2⟩:=HB (c:=t.getD g.A.toNat 0) (v:=1) (a2:=t.getD g.B.toNat 0) (a3:=c) h0 om one h
  rw [e1,obs]
  simp only [syM,e]
  exact ⟨_,_,_,rfl,e2.up om⟩
 ·have a:=g2 om
  have b:=g3 om om
  rw [kX om,kX om,kX om,kX om,bre e,vM om,obs]
  obtain ⟨x,y,z,e1,e2⟩:=HB (c:=t.getD g.B.toNat 0) (v:=1) (a2:=0) (a3:=c) h0 om one h
  obtain ⟨x',y',z',e3,e4⟩:=HB (c:=t.getD g.A.toNat 0) (v:=1) (a2:=0) (a3:=c) om om one e2
  rw [e1,obs,vM om,obs,e3,obs]
  simp only [syM,e]
  exact ⟨_,_,_,rfl,e4⟩
 ·have a:=g2 om
  rw [kX om,kX om,kX om,kX om,kX om,bre e,vM om,obs,c09 om,obs]
  obtain ⟨x,y,z,e1,e2⟩:=HB (c:=t.getD g.A.toNat 0) (v:=1) (a2:=t.getD g.A.toNat 0) (a3:=c) h0 om one h
  obtain ⟨x',y',z',e3,e4⟩:=HB (c:=t.getD g.A.toNat 0) (v:=1) (a2:=0) (a3:=c) om om one e2
  rw [e1,obs,obs,e3,obs]
  simp only [syM,e]
  exact ⟨_,_,_,rfl,e4⟩
end
section
theorem a3p {s:bk} {k:Nat} (h:s.Cols=((k+1:Nat):Int)) (hk:k<=50):fe s=some ((2^k:Nat):Int):=by
 have e:IntKind.wrap .i64 (((k+1:Nat):Int)-1)=(k:Int):=by rw [ak _ om om];omega
 unfold fe
 rw [h,e,brd om,De om]
theorem M0 {p w c2 c3 c4 c5:Int} {l:List Gate} {k:Nat} (hk:k<=50) (hp:0<=p) (hp1:p<=100):
 eX w l c2 c3 c4 c5 p ((k+1:Nat):Int)=if ((2^k:Nat):Int)<mx (p+1) w then some (.inl ((k+2:Nat):Int)) else some (.inr (false,((k+1:Nat):Int))):=by
 have e2:IntKind.wrap .i64 (((k+1:Nat):Int)+1)=((k+2:Nat):Int):=by rw [ak _ om om];omega
 simp only [eX]
 rw [a3p (k:=k) rfl hk,obs,e2,ak (p+1) om om]
 by_cases h:((2^k:Nat):Int)<mx (p+1) w
 ·rw [brd h,ae h]
 ·rw [brn h,aa h,ag h]
theorem b5e {p w c2 c3 c4 c5:Int} {l:List Gate} (hp:0<=p) (hp1:p<=7) (hw:w<=15):Loop (eX w l c2 c3 c4 c5 p) 2=some (false,(lgM (mx (p+1) w):Int)):=by
 have hm:mx (p+1) w<=15:=by unfold mx;split<;>omega
 have s1:=M0 (p:=p) (w:=w) (l:=l) (c2:=c2) (c3:=c3) (c4:=c4) (c5:=c5) (k:=1) om hp om
 have s2:=M0 (p:=p) (w:=w) (l:=l) (c2:=c2) (c3:=c3) (c4:=c4) (c5:=c5) (k:=2) om hp om
 have s3:=M0 (p:=p) (w:=w) (l:=l) (c2:=c2) (c3:=c3) (c4:=c4) (c5:=c5) (k:=3) om hp om
 have s4:=M0 (p:=p) (w:=w) (l:=l) (c2:=c2) (c3:=c3) (c4:=c4) (c5:=c5) (k:=4) om hp om
 simp only [Nat.reducePow,Nat.reduceAdd] at s1 s2 s3 s4
 unfold lgM
 generalize mx (p+1) w=m at*
 by_cases h1:m<=2
 ·rw [ae h1];rw [aa om] at s1;exact bZ s1
 rw [aa h1];rw [ae om] at s1
 refine (cf s1).trans ?_
 by_cases h2:m<=4
 ·rw [ae h2];rw [aa om] at s2;exact bZ s2
 rw [aa h2];rw [ae om] at s2
 refine (cf s2).trans ?_
 by_cases h3:m<=8
 ·rw [ae h3];rw [aa om] at s3;exact bZ s3
 rw [aa h3];rw [ae om] at s3
 refine (cf s3).trans ?_
 rw [aa om] at s4;exact bZ s4
theorem a7F {l:List Gate} {c9 c10 c11 c12 c13 c14:Int} (ok:OkC l):Loop (fa l (l.length:Int) l c9 c10 c11 c12 c13 c14) ([],1,((2^(lgC l-1):Nat):Int),0)=
 some (iI l l.length,(ga l 2:Int)+1,((2^(lgC l-1):Nat):Int)+((l.length:Int)-(ga l 2:Int)),(l.length:Int),false):=by
 have h1:=ok.n2
 have h2':=Nn l
 have hpw:=wX (lgC l-1) om
 have key:=bx (step:=fa l (l.length:Int) l c9 c10 c11 c12 c13 c14) (fun j=>(iI l j,(ga (l.take j) 2:Int)+1,((2^(lgC l-1):Nat):Int)+((j:Int)-(ga (l.take j) 2:Int)),(j:Int))) l.length (e:=(iI l l.length,(ga l 2:Int)+1,((2^(lgC l-1):Nat):Int)+((l.length:Int)-(ga l 2:Int)),(l.length:Int),false)) (fun j hj=> ?_) ?_
 ·have:((iI l 0,(ga (l.take 0) 2:Int)+1,((2^(lgC l-1):Nat):Int)+(((0:Nat):Int)-(ga (l.take 0) 2:Int)),((0:Nat):Int)):List Int×Int×Int×Int)=([],1,((2^(lgC l-1):Nat):Int),0):=by simp [iI,ga]
  rw [<-this,key]
 ·have hd:l.getD j ⟨0,0,0,0⟩=l[j]:=by simp [hj]
  have l2:=Af (l.take j) 2
  rw [bi] at l2
  have hcl:=HO l j
  have hfit: ∀v:Int,(iI l j++[v]).length*8<=1099511627776:=fun v=>by rw [ab,hcl];simp;omega
  simp only [fa]
  rw [brd om,cj hj,obs,db hj,yc,Qe,a4i,hd]
  by_cases h:l[j].Op=2
  ·rw [bre h,bw (hfit _),ak _ om om,ak _ om om,ae h,ae (by simp [h])]
   simp;omega
  ·rw [kX h,bw (hfit _),ak _ om om,ak _ om om,aa h,aa (by simp [h])]
   simp;omega
 ·simp only [fa]
  rw [brn om,ag om,bm]
theorem a3t {l:List Gate} {c16 c17 c18 c19 c20 c21:Int} (ok:OkC l): ∃mA mB mC,Loop (fW (iI l l.length) l (l.length:Int) l c16 c17 c18 c19 c20 c21) ([],[],[],0,0)=
 some (mA,mB,mC,(l.length:Int),false,(fdM l l.length).1)/\R3 (fdM l l.length).1 mA mB mC (fdM l l.length).2.1 (fdM l l.length).2.2.1 (fdM l l.length).2.2.2 (2*l.length):=by
 have hn:=ok.n2
 obtain ⟨⟨mA,mB,mC,i,b,r⟩,h1,h2,h3,h4,h5⟩:=q9 (step:=fW (iI l l.length) l (l.length:Int) l c16 c17 c18 c19 c20 c21)
  (fun s=> ∃j:Nat,j<=l.length/\s.2.2.2.1=(j:Int)/\s.2.2.2.2=(fdM l j).1/\R3 (fdM l j).1 s.1 s.2.1 s.2.2.1 (fdM l j).2.1 (fdM l j).2.2.1 (fdM l j).2.2.2 (2*j)) (fun s=>l.length-s.2.2.2.1.toNat)
  (fun e=>e.2.2.2.1=(l.length:Int)/\e.2.2.2.2.1=false/\e.2.2.2.2.2=(fdM l l.length).1/\R3 (fdM l l.length).1 e.1 e.2.1 e.2.2.1 (fdM l l.length).2.1 (fdM l l.length).2.2.1 (fdM l l.length).2.2.2 (2*l.length))
  (fun s=>by
   obtain ⟨mA,mB,mC,i,r⟩:=s
   rintro ⟨j,hj,e1,e2,h⟩
   dsimp only at e1 e2 h
   subst e1
   simp only [fW]
   by_cases hlt:j<l.length
   ·left
    have hd:l.getD j ⟨0,0,0,0⟩=l[j]:=by simp [hlt]
    have hl:=HO l l.length
    obtain ⟨_,r0,r1⟩:=N6 ok j hj
    obtain ⟨x,y,z,g1,g2⟩:=b0x (t:=iI l l.length) (c:=(iI l l.length).getD j 0) (ok.g j hlt) om r0 om h
    rw [brd om,cj hlt,obs,brd om,brd (by rw [aK];omega),aK,b8y om,obs,e2,g1,obs,ak _ om om]
    refine ⟨_,rfl,⟨j+1,by omega,by dsimp only;omega,by rw [fdM,hd], ?_⟩,by dsimp only;omega⟩
    rw [fdM,hd]
    exact g2
   ·right
    have:j=l.length:=by omega
    subst this
    rw [brn om,ag om]
    exact ⟨_,rfl,rfl,rfl,e2,h⟩)
  ([],[],[],0,0) ⟨0,by omega,rfl,rfl,⟨Rm.nil _,Rm.nil _,Rm.nil _,by simp,by simp,by simp⟩⟩
 dsimp only at h2 h3 h4 h5
 subst h2 h3 h4
 exact ⟨mA,mB,mC,h1,h5⟩
theorem a58 {c:Circuit} (ok:OkC c.Gates):ly c=some (Fo c.Gates):=by
 have hn:=ok.n2
 have h2:=ok.p
 have h3:=Af c.Gates 2
 have h5:=Nn c.Gates
 unfold ly
 have hl:Loop (eX ((c.Gates.length:Int)-(ga c.Gates 2:Int)) c.Gates 0 0 0 1 (ga c.Gates 2:Int)) 2=some (false,(lgC c.Gates:Int)):=b5e om om om
 rw [RB om,obs,ak _ om om,hl,obs]
 dsimp only
 rw [a3p (k:=lgC c.Gates-1) (by dsimp only;omega) om,obs,a7F ok,obs]
 dsimp only
 obtain ⟨mA,mB,mC,g1,g2⟩:=a3t (c16:=0) (c17:=0) (c18:=0) (c19:=1) (c20:=(lgC c.Gates:Int)) (c21:=(ga c.Gates 2:Int)) ok
 obtain ⟨_,r0,r1⟩:=N6 ok c.Gates.length (aw _)
 rw [g1,obs]
 dsimp only
 rw [a1Q (r:=(fdM c.Gates c.Gates.length).1) om (fun k k1 k5=> ?_),obs,g2.a.ent (by have:=g2.la;omega),obs,g2.b.ent (by have:=g2.lb;omega),obs,g2.c.ent (by have:=g2.lc;omega),obs]
 ·rfl
 ·simp only [ku]
  have e2:IntKind.wrap .i64 ((k:Int)+1)=((k+1:Nat):Int):=by rw [ak _ om om];omega
  rw [brd om,De om,e2]
  by_cases h:((2^k:Nat):Int)<(fdM c.Gates c.Gates.length).1
  ·rw [brd h,ae h]
  ·rw [brn h,aa h,ag h]
end
section
structure c5y (c:Circuit) (P I:List Int):Prop where
 ok:OkC c.Gates
 hP:KW P
 hI:KW I
 lP:P.length=ga c.Gates 2
 lI:I.length=ga c.Gates 1
theorem a56 {l:List Gate} (h:OkC l):C7 l=true:=by
 unfold C7
 rw [al ⟨h.n1,h.n2⟩,al (by have:=h.p;omega),aO,gt]
 refine aB.2 fun k hk=> ?_
 have hk:=bX.1 hk
 simpa [hk] using h.g k hk
end
section
def zc (z:List Int) (c:Int):Int:=z.getD c.toNat 0
def rS (z:List Int) (r x:Int) (e:au):Int:=if e.Row=r then aF x (mF e.Value (zc z e.Col)) else x
def rV (z:List Int) (r:Int) (L:List au):Int:=L.foldl (rS z r) 0
structure c66 (z:List Int) (r:Int) (A A':List au) (x:Int):Prop where
 old: ∀k,k<r->rV z k A'=rV z k A
 new:rV z r A'=x
 row: ∀e∈A',e.Row<r+1
structure c69 (r:Int) (A B C:List au):Prop where
 a: ∀e∈A,e.Row<r
 b: ∀e∈B,e.Row<r
 c: ∀e∈C,e.Row<r
end
section
theorem MkR.mat {l:List au} {row R C:Int} (h:MkR l row C) (hr:row<=R-1) (hl:l.length<=200):vT l R C=true:=by
 refine a6U hl fun t=> ?_
 rintro ⟨x,hx,hb⟩
 have hm:x∈l:=an hx
 obtain ⟨a1,a2,a3,a4,a5,a6⟩:=h.ent x hm
 rcases hb with hb|⟨ht,y,hy,hb⟩
 ·exact hb ⟨⟨a1,by omega⟩,⟨a3,a4⟩,a5,a6⟩
 ·refine hb ?_
  have h1:=(dh.1 hx)
  have h2:=(dh.1 hy)
  obtain ⟨i1,e1⟩:=h1
  obtain ⟨i2,e2⟩:=h2
  have:=mb.1 h.srt (t-1) t i2 i1 om
  rwa [e1,e2] at this
theorem c0G {l:List Gate} (ok:OkC l):tf (Fo l)=true:=by
 obtain ⟨m,r0,r1⟩:=N6 ok l.length (aw _)
 have hn:=ok.n2
 have hl:=Nn l
 have hr:=c3b (fdM l l.length).1
 have hf:=b9w (r:=(fdM l l.length).1) om
 have hg:=b6b ok
 unfold tf
 have c1:(Fo l).Rows=((rlM (fdM l l.length).1:Nat):Int):=rfl
 have c2:(Fo l).Cols=((lgC l:Nat):Int):=rfl
 have c3:(Fo l).Publics=((ga l 2:Nat):Int):=rfl
 have e3:((lgC l:Nat):Int)-1=((lgC l-1:Nat):Int):=by omega
 rw [c1,c2,c3,e3,De om,De om,De om]
 have la:=m.la
 have lb:=m.lb
 have lc:=m.lc
 have mA:vT (Fo l).A ((2^rlM (fdM l l.length).1:Nat):Int) ((2^lgC l:Nat):Int)=true:=m.a.mat om (by show (fdM l l.length).2.1.length<=200;omega)
 have mB:vT (Fo l).B ((2^rlM (fdM l l.length).1:Nat):Int) ((2^lgC l:Nat):Int)=true:=m.b.mat om (by show (fdM l l.length).2.2.1.length<=200;omega)
 have mC:vT (Fo l).C ((2^rlM (fdM l l.length).1:Nat):Int) ((2^lgC l:Nat):Int)=true:=m.c.mat om (by show (fdM l l.length).2.2.2.length<=200;omega)
 rw [mA,mB,mC,al om,al om,al om];rfl
end
set_option maxRecDepth 20000
section
section
variable (s:bk) (t:Setting) (p z:List Int) (src:Source)
end
variable {s:bk} {t:Setting} {p z:List Int} {src:Source} {k:Int}
end
section
variable {s:bk} {t:Setting} {p z:List Int} {src:Source} {k:Int}
end
section
end
set_option maxRecDepth 10000
section
end
section
end
section
structure c68 (l:List Gate) (P I:List Int):Prop where
 rc:c5y ⟨l⟩ P I
 fit:l.all (c5S (rnM P I l l.length))=true
 n9:l.length<=9
 p3:ga l 2<=3
end
set_option maxRecDepth 20000
section
end
section
variable {s:bk} {t:Setting} {p z:List Int} {src:Source} {k:Int}
end
section
theorem a9P {p:Proof} {s:bk} {t:Setting} (h:okP p s t=true):
 ∃(G W:List (List K)) (va vb vc vw:K),p=⟨p.Root,kvv G,va.1,vb.1,vc.1,kvv W,vw.1,p.Open⟩/\a1w s t p.Root G W p.Open:=by
 unfold okP Fc at h
 simp only [aC,aG,aB,h32,LO] at h
 obtain ⟨hs,ht,hr,⟨hg,hg2⟩,ha,hb,hc,⟨hw,hw2⟩,hv,ho⟩:=h
 obtain ⟨hR,hC,_⟩:=mH hs
 have lift: ∀(R:List (List Ext)) (n:Nat),(∀x∈R,vZ (n:Int) x=true)->R=kvv (R.map fun g=>g.map toK)/\ ∀g∈(R.map fun g=>g.map toK),g.length=n:=fun R n hR=>by
  have hx: ∀x∈R,x.length=n/\hG x:=fun x hx=>by
   have:=hR x hx
   simp only [vZ,aC,aG] at this
   exact ⟨by omega,b8U.1 this.2⟩
  refine ⟨?_,fun g hg=> ?_⟩
  ·rw [kvv,jr]
   conv=>lhs;rw [<-List.map_id R]
   exact cC fun x h=>(a6E (hx x h).2).symm
  ·obtain ⟨x,h,rfl⟩:=bu.1 hg
   rw [aM];exact (hx x h).1
 obtain ⟨eG,lG⟩:=lift p.Gates 4 hg2
 obtain ⟨eW,lW⟩:=lift p.Wires 3 hw2
 refine ⟨p.Gates.map fun g=>g.map toK,p.Wires.map fun g=>g.map toK,toK p.VA,toK p.VB,toK p.VC,toK p.VW, ?_,hr,by rw [aM];omega,lG,by rw [aM];omega,lW, ?_⟩
 ·rw [<-eG, <-eW,ml ha,ml hb,ml hc,ml hv]
 ·exact a9w (by rw [show ((s.Cols.toNat-1:Nat):Int)=s.Cols-1 by omega];exact ho)
theorem a2M {s:bk} {t:Setting} {p:List Int} {q:Proof} {src:Source} (h:Py s t p src) (hq:okP q s t=true):
 ∃c src',ki s t p q src=some (c,src')/\rX s t p q src=some c:=by
 obtain ⟨G,W,va,vb,vc,vw,e,hp⟩:=a9P hq
 obtain ⟨src',h1⟩:=a2Z (va:=va) (vb:=vb) (vc:=vc) (vw:=vw) h hp
 rw [e]
 exact ⟨_,_,h1,Tj h hp⟩
theorem a4o {s:bk} {t:Setting} {p:List Int} {q:Proof} {src:Source} (hA:s.A.length<=1048576) (hB:s.B.length<=1048576) (hC:s.C.length<=1048576) (hp:p.length<=1048576) (hq:SzP q) (hs:src.Script.length<=1048576):
 ∃r,wx s t p q src=some r/\vy s t p q src=some r:=by
 unfold wx vy
 rw [RE hA hB hC hp hs,obs]
 by_cases hl:p.length>4096
 ·rw [brd om]
  have:stC s t p src=2:=by unfold stC;rw [ae hl]
  rw [this,brb om]
  exact ⟨_,rfl,rfl⟩
 rw [brn om,a1J hp hs,obs]
 by_cases h0:stC s t p src=0
 ·have h:=c3o h0
  have h64:=h.fw.1.1
  rw [fq h0,fq h0]
  unfold Dk
  rw [a1e hq hA hB hC,obs,a06 hq,obs]
  cases hk:okP q s t with
  |false=>exact ⟨_,rfl,rfl⟩
  |true=>
   obtain ⟨c,src',h1,h2⟩:=a2M h hk
   rw [aH,bf,bf,a3Y om,obs,h1,h2]
   exact ⟨_,rfl,rfl⟩
 ·rw [brb h0,brb h0]
  exact ⟨_,rfl,rfl⟩
theorem VT {a:Source} {left:Int} (ha:bdSource a) (h0: -1<=left) (h1:left<=1048576): ∃r,zC a left=some r/\ -1<=r/\r<=1048576/\(0<=r->a.Script.length<=1048576):=by
 obtain ⟨b0,_,b1,_⟩:=ha
 have b1':a.State.length<=9223372036854775807:=b1
 obtain ⟨r,h2,h3,h4,h5⟩:=FM b0.1 h0 h1
 unfold zC
 rw [h2,obs]
 by_cases c:r<0
 ·rw [brd c];exact ⟨_,rfl,by omega,by omega,by omega⟩
 ·rw [brn c,ak _ om om]
  by_cases d:r-(a.State.length:Int)<0
  ·rw [brd d];exact ⟨_,rfl,by omega,by omega,by omega⟩
  ·rw [brn d];exact ⟨_,rfl,by omega,by omega,fun _=>h5 om⟩
theorem WD {a:Source} (h:a.Script.length<=1048576):rq a=some a:=by
 unfold rq
 rw [H9 h,obs]
theorem Pn {a:Source} (h:a.Script.length<=1048576):yW a a=some true:=by
 unfold yW
 rw [BC h,obs,aH,bf,fq rfl,Tr (by simp),fq rfl]
end
section
variable {s:bk} {t:Setting} {p z:List Int} {src:Source} {k:Int}
end
section
variable {v ρ:Nat} {t P:List K} {s:Source} {k:Int}
end
section
variable {s:bk} {t:Setting} {p z:List Int} {src:Source} {k:Int}
theorem KD {l:List Gate} {P:List Int} {t:Setting} {q:Proof} {src:Source} (ok:OkC l) (hP:P.length<=4096):gU ⟨l⟩ t P q src=wx (Fo l) t P q src:=by
 have hn:=ok.n2
 unfold gU
 rw [brn om,Gk (by show l.length<=_;omega),obs,show C7 (Circuit.mk l).Gates=true from a56 ok,aH,bf,a58 (c:=⟨l⟩) ok,obs]
 show (wx (Fo l) t P q src).bind (fun r=>some (r.1,r.2))=_
 cases wx (Fo l) t P q src<;>rfl
theorem Mg {l:List Gate} {P:List Int} {t:Setting} {q:Proof} {src:Source} (ok:OkC l) (hP:P.length<=4096):gY ⟨l⟩ t P q src=vy (Fo l) t P q src:=by
 have hn:=ok.n2
 unfold gY
 rw [brn om,G4 (by show l.length<=_;omega),obs,show C7 (Circuit.mk l).Gates=true from a56 ok,aH,bf,R8 (c:=⟨l⟩) ok,obs]
 show (vy (Fo l) t P q src).bind (fun r=>some (r.1,r.2))=_
 cases vy (Fo l) t P q src<;>rfl
theorem b6X {l:List Gate} (ok:OkC l):(Fo l).A.length<=1048576/\(Fo l).B.length<=1048576/\(Fo l).C.length<=1048576:=by
 obtain ⟨_,_,_,lA,lB,lC⟩:=mH (c0G ok)
 exact ⟨by omega,by omega,by omega⟩
theorem a0R {c:Circuit} {t:Setting} {p:List Int} {q:Proof} {src:Source} (hc:c.Gates.length<=1048576) (hp:p.length<=1048576) (hq:SzP q) (hs:src.Script.length<=1048576):
 ∃r,gU c t p q src=some r/\gY c t p q src=some r:=by
 obtain ⟨l⟩:=c
 by_cases hl:p.length>4096
 ·refine ⟨(false,2), ?_, ?_⟩
  ·unfold gU;rw [brd om]
  ·unfold gY;rw [brd om]
 ·cases hb:C7 l with
  |false=>
   refine ⟨(false,19), ?_, ?_⟩
   ·unfold gU;rw [brn om,Gk hc,obs,show C7 (Circuit.mk l).Gates=false from hb];rfl
   ·unfold gY;rw [brn om,G4 hc,obs,show C7 (Circuit.mk l).Gates=false from hb];rfl
  |true=>
   have ok:=b5u hb
   obtain ⟨a,b,d⟩:=b6X ok
   rw [KD ok om,Mg ok om]
   exact a4o a b d hp hq hs
end
section
theorem c1o {a:List Gate} {left:Int} (ha:a.length<=9223372036854775807) (h0: -1<=left) (h1:left<=1048576):
 ∃r,CL a left=some r/\ -1<=r/\r<=1048576/\(0<=r->a.length<=1048576):=by
 unfold CL
 rw [ak _ om om]
 by_cases c:left-(a.length:Int)<0
 ·rw [brd c];exact ⟨_,rfl,by omega,by omega,by omega⟩
 ·rw [brn c];exact ⟨_,rfl,by omega,by omega,by omega⟩
theorem c3C {a:Circuit} {left:Int} (ha:a.Gates.length<=9223372036854775807) (h0: -1<=left) (h1:left<=1048576):
 ∃r,wy a left=some r/\ -1<=r/\r<=1048576/\(0<=r->a.Gates.length<=1048576):=by
 unfold wy
 obtain ⟨b,eb,b0,b1,b2⟩:=c1o ha h0 h1
 rw [eb,obs]
 by_cases cb:b<0
 ·rw [brd cb];exact ⟨_,rfl,by omega,by omega,by omega⟩
 rw [brn cb]
 exact ⟨_,rfl,b0,b1,b2⟩
theorem c1E {a:List Gate} (ha:a.length<=1048576):CI a=some a:=by
 unfold CI
 have hm:zJ ((a.length:Nat):Int) ((a.length:Nat):Int) 32=true:=by
  have h24:((a.length:Nat):Int)*((32:Nat):Int)<=((cU:Nat):Int):=by simp only [cU];omega
  unfold zJ;rw [al (show (0:Int)<=((a.length:Nat):Int) by omega),al (Int.le_refl _),al h24];rfl
 rw [Ga hm]
 have key:=q9 (step:=qv a) (fun s=>0<=s.2/\s.2<=a.length/\s.1.length=a.length/\ ∀k:Nat,(k:Int)<s.2->s.1[k]? =a[k]?) (fun s=>(a.length-s.2).toNat)
  (fun e=>e.1=a) ?_ ((List.replicate (((a.length:Nat):Int).toNat) (Gate.mk (0:Int) (0:Int) (0:Int) (0:Int))),(0:Int)) ⟨by simp,by simp,by simp,fun k (hk:(k:Int)<0)=>by omega⟩
 ·obtain ⟨e,he,h⟩:=key
  rw [he];simp only [obs,h]
 ·rintro ⟨l,i⟩ ⟨h0,h1,hl,h2⟩
  dsimp only at h0 h1 hl h2
  simp only [qv]
  by_cases c:i<(a.length:Int)
  ·obtain ⟨x,rest,e1,e2,e3⟩:=p9 (l:=a) (i:=i.toNat) om
   obtain ⟨y,rest2,f1,f2,f3⟩:=p9 (l:=l) (i:=i.toNat) om
   rw [brd c,HN h0 e3]
   simp only [obs,LL]
   rw [brd h0,brd om,f3]
   simp only [obs]
   rw [ak (i+1) om om]
   refine .inl ⟨_,rfl,⟨by dsimp only;omega,by dsimp only;omega,by simp [hl],fun k hk=> ?_⟩,by dsimp only;omega⟩
   dsimp only at hk ⊢
   rw [fC]
   by_cases e:i.toNat=k
   ·rw [ae e,ae om, <-e,e3]
   ·rw [aa e];exact h2 k om
  ·rw [brn c]
   refine .inr ⟨_,rfl, ?_⟩
   apply ny
   intro k
   show l[k]? =a[k]?
   by_cases hk:k<a.length
   ·exact h2 k om
   ·rw [bF om,bF om]
theorem c0K {a:List Gate} (ha:a.length<=1048576):Cy a a=some true:=by
 unfold Cy
 rw [fq rfl]
 have key:=q9 (step:=pV a a) (fun t=>0<=t/\t<=a.length) (fun t=>(a.length-t).toNat) (fun e=> ∃p,e= .inr p) ?_ 0 ⟨by omega,by omega⟩
 ·obtain ⟨e,he,p,rfl⟩:=key
  rw [he];rfl
 ·intro t ⟨h0,h1⟩
  simp only [pV]
  by_cases c:t<(a.length:Int)
  ·left
   obtain ⟨x,r,e1,e2,e3⟩:=p9 (l:=a) (i:=t.toNat) om
   rw [brd c,HN h0 e3]
   simp only [obs,KN]
   rw [fq rfl,fq rfl,fq rfl,fq rfl]
   simp only [obs,aH,bf]
   rw [ak (t+1) om om]
   exact ⟨_,rfl,⟨by omega,by omega⟩,by omega⟩
  ·right
   rw [brn c]
   exact ⟨_,rfl,_,rfl⟩
theorem c3R {c:Circuit} (h:c.Gates.length<=1048576):w9 c c=some true:=by
 unfold w9
 rw [c0K h];rfl
theorem c3i {c:Circuit} (h:c.Gates.length<=1048576):oh c=some c:=by
 unfold oh
 rw [c1E h];rfl
end
section
theorem law_FnExactVerifyCircuit (c:Circuit) (t:Setting) (a:List Int) (p:Proof) (src:Source) (hc:bdCircuit c) (ht:bdSetting t) (ha:bdL bdI a) (hp:bdProof p) (hsr:bdSource src):jd c t a p src=some true:=by
 unfold jd
 by_cases c1:((a.length:Nat):Int)>1048576
 ·rw [brd c1]
 rw [brn c1]
 obtain ⟨r,e1,r0,r1,h1⟩:=c3C (a:=c) (left:=1048576) hc.1 om om
 rw [e1,obs]
 by_cases c2:r<0
 ·rw [brd c2]
 rw [brn c2]
 obtain ⟨q,e2,q0,q1,h2⟩:=YP hp r0 r1
 rw [e2,obs]
 by_cases c3:q<0
 ·rw [brd c3]
 rw [brn c3]
 obtain ⟨z,e3,z0,z1,h3⟩:=VT hsr q0 q1
 rw [e3,obs]
 by_cases c4:z<0
 ·rw [brd c4]
 rw [brn c4]
 have hC:=h1 om
 have hP:=h2 om
 have hS:=h3 om
 obtain ⟨x,i1,i2⟩:=a0R (c:=c) (t:=t) (p:=a) (q:=p) (src:=src) hC om hP hS
 unfold vU
 rw [c3i hC,a42 om,a1y hP,WD hS]
 simp only [obs]
 rw [i1,i2]
 simp only [obs]
 rw [c3R hC,Vj om,TL hP,Pn hS]
 simp only [obs,aH,bf]
 rw [Tr (by simp),fq rfl]
end
end Go.AI.Fn
