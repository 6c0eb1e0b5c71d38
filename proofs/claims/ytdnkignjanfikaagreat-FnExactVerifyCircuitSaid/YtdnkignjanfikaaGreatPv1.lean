/- Part. -/
import Derived.Test.YtdnkignjanfikaaGreatPv0
set_option linter.unusedVariables false
set_option linter.unusedSimpArgs false
namespace Go.AI.Fn
section
theorem a8J {n:Int} (x:UInt8) (h0:0<=n) (c:n<72057594037927936):xz .u64 (bC .u64 n 8) (IntKind.wrap .u64 (x.toNat:Int))=n*256+x.toNat:=by
 have d:=zV x
 have e1:bC .u64 n 8=n*256:=by
  have:n*2^(min (8:Int).toNat (IntKind.bits .u64))=n*256:=by
   have:(2:Int)^(min (8:Int).toNat (IntKind.bits .u64))=256:=by decide
   rw [this]
  unfold bC
  rw [this,en _ om om]
 rw [e1,en (x.toNat:Int) om om]
 unfold xz
 obtain ⟨m,rfl⟩:=nw h0
 have e2:(BitVec.ofInt (IntKind.bits .u64) ((m:Int)*256)|||BitVec.ofInt (IntKind.bits .u64) (x.toNat:Int)).toNat=m*256+x.toNat:=by
  rw [BitVec.toNat_or,gr,gr]
  have a:(((m:Int)*256)%((2^(IntKind.bits .u64):Nat):Int)).toNat=m<<<8:=by
   rw [show ((2^(IntKind.bits .u64):Nat):Int)=18446744073709551616 by decide,nX];omega
  have b:((x.toNat:Int)%((2^(IntKind.bits .u64):Nat):Int)).toNat=x.toNat:=by
   rw [show ((2^(IntKind.bits .u64):Nat):Int)=18446744073709551616 by decide];omega
  rw [a,b, <-Nat.shiftLeft_add_eq_or_of_lt (show x.toNat<2^8 by omega),nX]
 rw [e2,en _ om om]
 omega
theorem a5i: ∀(l:List UInt8) (k:Nat),k<=8->k<=l.length->0<=beN (l.take k)/\beN (l.take k)<256^k
 |l,0,_,_=>by simp [beN]
 |l,k+1,h,a=>by
  have ⟨h0,b⟩:=a5i l k om om
  have c:=zV l[k]
  rw [db om,Qa]
  have:(256:Int)^(k+1)=256^k*256:=g8 _ _
  rw [this]
  generalize (256:Int)^k=p at*
  omega
theorem c8q: ∀k:Nat,k<8->(256:Int)^k<=72057594037927936:=by decide
theorem NX {t:List UInt8} (h:t.length=8):BD t=some (a9T t):=by
 unfold BD
 have key:Loop (mf t (t.length:Int)) (0,0)=some (beN t,(t.length:Int),false):=by
  have key:=bu (step:=mf t (t.length:Int)) (fun k=>(beN (t.take k),(k:Int))) t.length (e:=(beN t,(t.length:Int),false)) (fun k a=> ?_) ?_
  ·exact key
  ·have ⟨h0,b⟩:=a5i t k om om
   have c:=c8q k om
   simp only [mf]
   rw [brd om,ck a,obs,a8J _ h0 om,ak _ om om,db a,Qa];rfl
  ·simp only [mf]
   rw [brn om,ag om,bk]
 have ⟨h0,b⟩:=a5i t 8 om om
 rw [ca om] at h0 b
 rw [key,obs]
 dsimp only
 rw [ej _ _ h0,ak _ om om];rfl
theorem vW {s:Source} {t:List UInt8} (b:s.State.length=32) (c:t.length<=1000000):fN t s=some (tkM s t):=by
 unfold fN
 have a:[s.State,[97,98,115,111,114,98],ig (t.length:Int),t].flatten=s.State++(b4q++(ig t.length++t)):=by simp [b4q]
 rw [bt om,H7,obs,v8 (by rw [a];simp only [ab,dG,b4q,ah,ai];omega) (by simp),obs,a];rfl
theorem Wo {s:Source} (h:FT s):jg s=some ((vJ s).2,(vJ s).1):=by
 have i:=h.1
 have j:=h.3
 have c:=h.4
 have m:=h.5
 have n:=h.6
 have o:=h.7
 unfold jg vJ
 by_cases a:s.Script.length=0
 ·have p:=dG s.Count
  have q:=E7 (s.State++(Zx++ig s.Count))
  have e:[s.State,[100,114,97,119],ig s.Count].flatten=s.State++(Zx++ig s.Count):=by simp [Zx]
  rw [brn om,ae a,bt om,H7,obs,v8 (by rw [e];simp only [ab,dG,Zx,ah,ai];omega) (by simp),obs,e,bt om,
   ma om om om,obs,NX (by simp;omega),obs,ma om om om,obs,NX (by simp;omega),obs,ak _ om om]
  rfl
 ·have d:=p6 s.At (b:=(s.Script.length:Int)) om
  have f:=m3 s.At (b:=(s.Script.length:Int)) om
  rw [brd om,aa a,brd om,ak (s.At+1) om om,ak (s.At+1-1) om om,show s.At+1-1=s.At by omega,ej _ _ c]
  have e:atL s.Script (s.At%(s.Script.length:Int))=some (s.Script.getD (s.At%(s.Script.length:Int)).toNat e0):=by
   have:=a7j (l:=s.Script) (k:=(s.At%(s.Script.length:Int)).toNat) om
   rwa [ew d] at this
  rw [e];rfl
def drS (s:Source):Nat->Source
 |0=>s
 |j+1=>(vJ (drS s j)).1
def drL (s:Source) (n:Nat):List Ext:=(List.range n).map fun j=>(vJ (drS s j)).2
theorem oQ (s:Source) (n:Nat):(drL s n).length=n:=by simp [drL]
theorem He {s:Source} {k:Int} (h:Few s k) (a:k<=999890): ∀j:Nat,j<=100->Few (drS s j) (k+j)
 |0,_=>h.mono om
 |j+1,b=>((He h a j om).draw om).mono om
theorem Rl {s:Source} {k:Int} (h:Few s k) (b:k<=999890) {n:Nat} (hn:n<=100):hG (drL s n):=fun x c=>by
 obtain ⟨j,a,rfl⟩:=bq.1 c
 have a:=bV.1 a
 exact a06 (He h b j om).1
theorem a2m (s:Source) (n:Nat):drL s (n+1)=drL s n++[(vJ (drS s n)).2]:=by simp [drL,gJ]
theorem Jl {s:Source} {k:Int} (h:Few s k) (a:k<=999890) {n:Nat} (hn:n<=100):jD (n:Int) s=some (drL s n,drS s n):=by
 unfold jD
 have key:=bu (step:=fS (n:Int)) (fun j=>(drL s j,(j:Int),(drS s j).Script,(drS s j).At,(drS s j).State,(drS s j).Count)) n (e:=(drL s n,(n:Int),false,(drS s n).Script,(drS s n).At,(drS s n).State,(drS s n).Count)) (fun j b=> ?_) ?_
 ·have key':Loop (fS (n:Int)) ([],0,s.Script,s.At,s.State,s.Count)=_:=key
  rw [key'];rfl
 ·simp only [fS]
  rw [brd om,Wo (He h a j om).1,obs,bt (by simp only [ab,oQ,am];omega),ak _ om om, <-a2m];rfl
 ·simp only [fS]
  rw [brn om,ag om]
theorem MC {s:Source} {k:Int} (h:Few s k) (a:k<=999890) {n:Nat} (hn:n<=100):tE s (n:Int)=some (drS s n,drL s n):=by
 unfold tE
 have key:=bu (step:=kA (n:Int) 0 [] 0) (fun j=>(drL s j,(j:Int),(drS s j).Script,(drS s j).At,(drS s j).State,(drS s j).Count)) n (e:=(drL s n,(n:Int),false,(drS s n).Script,(drS s n).At,(drS s n).State,(drS s n).Count)) (fun j b=> ?_) ?_
 ·have key':Loop (kA (n:Int) 0 [] 0) ([],0,s.Script,s.At,s.State,s.Count)=_:=key
  rw [key'];rfl
 ·simp only [kA]
  rw [brd om,Vq (He h a j om).1,obs,bt (by simp only [ab,oQ,am];omega),ak _ om om, <-a2m];rfl
 ·simp only [kA]
  rw [brn om,ag om]
theorem a0n {s:Source} (h:s.Script.length<=1000000):mL s=some s:=by
 unfold mL hJ
 rw [bt om];rfl
variable {s:Source} {k:Int}
theorem c83 {a b c:Int} (h:a<=c) (g:b<=c):mx a b<=c:=by unfold mx;split<;>assumption
def plM (l:List Ext) (m:Int):List Int:=l.map fun x=>x.A%m
theorem a3m {l:List Ext} {m:Int} (b:l.length<=1000) (ok:hG l) (c:0<m):F3 l m=some (plM l m):=by
 unfold F3
 have key:Loop (mc m l (l.length:Int)) ([],0)=some (plM l m,(l.length:Int),false):=
  bu (step:=mc m l (l.length:Int)) (fun j=>(plM (l.take j) m,(j:Int))) l.length (fun j a=>by
   simp only [mc]
   rw [brd om,ck a,obs,brd om,bt (by simp only [ab,plM,aO,bc,am];omega),ak _ om om,ej _ _ (ok.get a).1.1,db a]
   simp only [plM,cI,aP,dM,l5]) (by
   simp only [mc]
   rw [brn om,ag om,bk])
 rw [key];rfl
theorem a37 {l:List Ext} {m:Int} {c c8:List Ext} {c2 c4 c5 c7 c9 c11:Int} {c3 c6 c10:List UInt8} (b:l.length<=1000) (ok:hG l) (d:0<m):Loop (iQ (l.length:Int) m l c c2 c3 c4 c5 c6 c7 c8 c9 c10 c11) ([],0)=some (plM l m,(l.length:Int),false):=
 bu (step:=iQ (l.length:Int) m l c c2 c3 c4 c5 c6 c7 c8 c9 c10 c11) (fun j=>(plM (l.take j) m,(j:Int))) l.length (fun j a=>by
  simp only [iQ]
  rw [brd om,ck a,obs,brd om,bt (by simp only [ab,plM,aO,bc,am];omega),ak _ om om,ej _ _ (ok.get a).1.1,db a]
  simp only [plM,cI,aP,dM,l5]) (by
  simp only [iQ]
  rw [brn om,ag om,bk])
end
section
def toK (x:Ext):K:=⟨⟨x.A%2130706433,x.B%2130706433⟩,⟨kV _,kV _⟩⟩
theorem m1 {x:Ext} (h:okE x):(toK x).1=x:=My (Fi h.1) (Fi h.2)
theorem Pn (l:List Ext):(l.flatMap e8).length=8*l.length:=by
 induction l with
 |nil=>rfl
 |cons x l ih=>simp only [cm,ab,ih,c5M,ah];omega
def rsM (s:Source) (g:List K):Source:=tkM s ((kv g).flatMap e8)
def rdM (s:Source) (g:List K):K:=toK (vJ (rsM s g)).2
def nsM (s:Source) (g:List K):Source:=(vJ (rsM s g)).1
theorem Ja {s:Source} {k:Int} (h:Few s k) (a:k<=999990) (g:List K):Few (nsM s g) (k+2):=by
 have:=(h.take ((kv g).flatMap e8)).draw om
 rw [show k+1+1=k+2 by omega] at this;exact this
theorem b33 {s:Source} {k:Int} (h:Few s k) (g:List K):(rdM s g).1=(vJ (rsM s g)).2:=m1 (a06 (h.take _).1)
theorem Sj {s:Source} (h:FT s) {g:List K} (a:g.length<=1000):da (kv g) s=some (rsM s g):=by
 have e:=Pn (kv g)
 rw [cg] at e
 unfold da
 rw [IA (by rw [cg];omega),obs,vW h.3 om];rfl
theorem QH {s:Source} (h:FT s) {g:List K} (a:g.length<=1000):l0 s (kv g)=some (rsM s g):=by
 have e:=Pn (kv g)
 rw [cg] at e
 unfold l0
 rw [Ri (by rw [cg];omega),obs,vx h.3 om];rfl
theorem c1Y {s:Source} {k:Int} (h:Few s k) (g:List K):jg (rsM s g)=some ((rdM s g).1,nsM s g):=by
 rw [Wo (s:=rsM s g) (h.take _).1,b33 h];rfl
theorem c2o {s:Source} {k:Int} (h:Few s k) (g:List K):rf (rsM s g)=some (nsM s g,(rdM s g).1):=by
 rw [Vq (s:=rsM s g) (h.take _).1,b33 h];rfl
variable {kind:Nat} {bh:List K->Source->Source}
theorem c0f (v:Nat):2^(v+1)=2*2^v:=by rw [fT,oI]
theorem OkT.up {v:Nat} {T:List (List K)} (h:OkT kind (2^(v+1)) T) (r:K):OkT kind (2^v) (bdK r T):=by
 rw [c0f] at h;exact h.bd r
noncomputable instance c7V:DecidableEq K:=fun a b=>Classical.propDecidable _
noncomputable def vfM (kind:Nat) (bv:Nat->Source->Source):List (List K)->Nat->K->Source->Int×List K×K×Source
 |[],i,c,s=>(0,[],c,s)
 |g::R,i,c,s=>if g.length=kind+2 then (if g.getD 0 0+g.getD 1 0=c then
   ((vfM kind bv R (i+1) (lnK g (rdM s g)) (bv i (nsM s g))).1,rdM s g::(vfM kind bv R (i+1) (lnK g (rdM s g)) (bv i (nsM s g))).2.1,(vfM kind bv R (i+1) (lnK g (rdM s g)) (bv i (nsM s g))).2.2) else (10,[],c,s)) else (18,[],c,s)
def bv0:Nat->Source->Source:=fun _ s=>s
def c4P (bv:Nat->Source->Source):Prop:= ∀i s k,Few s k->k<=999990->Few (bv i s) (k+1)
theorem b2c:c4P bv0:=fun i s k h _=>h.mono om
variable {bv:Nat->Source->Source}
theorem Rc (hb:c4P bv): ∀(R:List (List K)) (i:Nat) (c:K) (s:Source) (k:Int),Few s k->k+3*R.length<=999990->Few (vfM kind bv R i c s).2.2.2 (k+3*R.length)
 |[],i,c,s,k,h,hk=>by rw [ai,show k+3*((0:Nat):Int)=k by omega];exact h
 |g::R,i,c,s,k,h,hk=>by
  rw [ah] at hk ⊢
  rw [vfM]
  by_cases h1:g.length=kind+2
  ·by_cases h2:g.getD 0 0+g.getD 1 0=c
   ·rw [ae h1,ae h2]
    have:=Rc hb R (i+1) (lnK g (rdM s g)) _ _ (hb i _ _ (Ja h om g) om) om
    rw [show k+2+1+3*(R.length:Int)=k+3*((R.length+1:Nat):Int) by omega] at this
    exact this
   ·rw [ae h1,aa h2];exact h.mono om
  ·rw [aa h1];exact h.mono om
theorem Se: ∀(R:List (List K)) (i:Nat) (c:K) (s:Source),(vfM kind bv R i c s).1=0->(vfM kind bv R i c s).2.1.length=R.length
 |[],i,c,s,h=>rfl
 |g::R,i,c,s,h=>by
  rw [vfM] at h ⊢
  by_cases h1:g.length=kind+2
  ·by_cases h2:g.getD 0 0+g.getD 1 0=c
   ·rw [ae h1,ae h2] at h ⊢
    simp only [ah];rw [Se R _ _ _ h]
   ·rw [ae h1,aa h2] at h;exact absurd (show (10:Int)=0 from h) (by decide)
  ·rw [aa h1] at h;exact absurd (show (18:Int)=0 from h) (by decide)
theorem c7O (a b:K):(a.1.A==b.1.A&&a.1.B==b.1.B)=decide (a=b):=by
 by_cases h:a=b
 ·subst h;simp
 ·rw [ag h]
  refine Bool.eq_false_iff.2 fun e=>h ?_
  simp only [aD,beq_iff_eq] at e
  exact K.ext (My e.1 e.2)
theorem HB {α:Type} (a b:K) (x y:α):br (a.1.A==b.1.A) (br (a.1.B==b.1.B) x y) y=if a=b then x else y:=by
 have:=c7O a b
 cases c:(a.1.A==b.1.A)<;>cases d:(a.1.B==b.1.B)<;>rw [c,d] at this<;>simp at this<;>simp [this,br]
theorem atK {l:List K} {j:Nat} {i:Int} (hi:i=(j:Int)) (h:j<l.length):atL (kv l) i=some (l.getD j 0).1:=by subst hi;exact wE h
theorem Wg {c7 c8:Int} (a:kind=1\/kind=2): ∀(R pre:List (List K)) (c:K) (s:Source) (k:Int) (P:List Ext),Few s k->k+3*R.length<=999990->P.length+R.length<=999990->pre.length+R.length<=999990->
 ((vfM kind bv0 R pre.length c s).1=0->Loop (bH (kind:Int) (kvv (pre++R)) ((pre++R).length:Int) c7 c8) (P,(pre.length:Int),s.Script,s.At,s.State,s.Count,c.1.A,c.1.B)=
   some (.inr (P++kv (vfM kind bv0 R pre.length c s).2.1,((pre++R).length:Int),false,(vfM kind bv0 R pre.length c s).2.2.2.Script,(vfM kind bv0 R pre.length c s).2.2.2.At,(vfM kind bv0 R pre.length c s).2.2.2.State,(vfM kind bv0 R pre.length c s).2.2.2.Count,
    (vfM kind bv0 R pre.length c s).2.2.1.1.A,(vfM kind bv0 R pre.length c s).2.2.1.1.B)))/\
 ((vfM kind bv0 R pre.length c s).1≠0-> ∃P' A B,Loop (bH (kind:Int) (kvv (pre++R)) ((pre++R).length:Int) c7 c8) (P,(pre.length:Int),s.Script,s.At,s.State,s.Count,c.1.A,c.1.B)=
   some (.inl (P',(vfM kind bv0 R pre.length c s).1,(vfM kind bv0 R pre.length c s).2.2.2.Script,(vfM kind bv0 R pre.length c s).2.2.2.At,(vfM kind bv0 R pre.length c s).2.2.2.State,(vfM kind bv0 R pre.length c s).2.2.2.Count,A,B)))
 |[],pre,c,s,k,P,d,m,n,o=>by
  refine ⟨fun _=>bX ?_,fun h=>absurd rfl h⟩
  simp only [bH,bU]
  rw [brn om,ag om]
  simp [vfM,kv]
 |g::R,pre,c,s,k,P,d,m,n,o=>by
  rw [ah] at m n o
  have hat:atL (kvv (pre++g::R)) (pre.length:Int)=some (kv g):=by rw [WA (by simp)];simp
  have b:(pre.length:Int)<((pre++g::R).length:Int):=by rw [ab,ah];omega
  rw [vfM]
  by_cases l:g.length=kind+2
  ·by_cases f:g.getD 0 0+g.getD 1 0=c
   ·rw [ae l,ae f]
    have ih:=Wg (c7:=c7) (c8:=c8) a R (pre++[g]) (lnK g (rdM s g)) (nsM s g) (k+2) (P++[(rdM s g).1]) (Ja d om g) om (by rw [ab,am];omega) (by rw [ab,am];omega)
    rw [aV,aU,ab,am] at ih
    have step:bH (kind:Int) (kvv (pre++g::R)) ((pre++g::R).length:Int) c7 c8 (P,(pre.length:Int),s.Script,s.At,s.State,s.Count,c.1.A,c.1.B)=
     some (.inl (P++[(rdM s g).1],((pre.length+1:Nat):Int),(nsM s g).Script,(nsM s g).At,(nsM s g).State,(nsM s g).Count,(lnK g (rdM s g)).1.A,(lnK g (rdM s g)).1.B)):=by
     simp only [bH]
     rw [brd b,hat,obs,Al a,obs,ak _ om om,fk (by rw [cg];omega),atK (i:=0) (j:=0) rfl om,obs,atK (i:=1) (j:=1) rfl om,obs,lN (aI _) (aI _),obs]
     rw [show eA (g.getD 0 0).1 (g.getD 1 0).1=c.1 from congrArg Subtype.val f,bre rfl,bre rfl,show Source.mk s.Script s.At s.State s.Count=s from rfl,Sj d.1 om,obs,c1Y d,obs]
     dsimp only
     rw [NM _ om,obs,bt (by rw [ab,am];omega),ak _ om om];rfl
    refine ⟨fun h=> ?_,fun h=> ?_⟩
    ·rw [cf step,ih.1 h]
     simp [kv,bv0]
    ·obtain ⟨P',A,B,e⟩:=ih.2 h
     exact ⟨P',A,B,by rw [cf step,e];rfl⟩
   ·rw [ae l,aa f]
    refine ⟨fun h=>absurd (show (10:Int)=0 from h) (by decide),fun _=>⟨P,c.1.A,c.1.B,bX ?_⟩⟩
    simp only [bH]
    rw [brd b,hat,obs,Al a,obs,ak _ om om,fk (by rw [cg];omega),atK (i:=0) (j:=0) rfl om,obs,atK (i:=1) (j:=1) rfl om,obs,lN (aI _) (aI _),obs]
    rw [show eA (g.getD 0 0).1 (g.getD 1 0).1=(g.getD 0 0+g.getD 1 0).1 from rfl,HB,aa f]
  ·rw [aa l]
   refine ⟨fun h=>absurd (show (18:Int)=0 from h) (by decide),fun _=>⟨P,c.1.A,c.1.B,bX ?_⟩⟩
   simp only [bH]
   rw [brd b,hat,obs,Al a,obs,ak _ om om,brb (by rw [cg];omega)]
theorem Gv (a:kind=1\/kind=2) {R:List (List K)} {c:K} {s:Source} {k:Int} (b:Few s k) (d:k+3*R.length<=999990):
 cO (kind:Int) c.1 (kvv R) s=some (if (vfM kind bv0 R 0 c s).1=0 then (kv (vfM kind bv0 R 0 c s).2.1,(vfM kind bv0 R 0 c s).2.2.1.1,0,(vfM kind bv0 R 0 c s).2.2.2) else ([],e0,(vfM kind bv0 R 0 c s).1,(vfM kind bv0 R 0 c s).2.2.2)):=by
 have f:0<=k:=by have:=b.2;have:=b.1.4;omega
 have h:=Wg (c7:=0) (c8:=0) a R [] c s k [] b d (by rw [ai];omega) (by rw [ai];omega)
 rw [bg,ai] at h
 unfold cO
 rw [Ws]
 by_cases h0:(vfM kind bv0 R 0 c s).1=0
 ·rw [ae h0]
  have:=h.1 h0
  rw [show (((0:Nat):Int))=0 from rfl] at this
  rw [this];rfl
 ·rw [aa h0]
  obtain ⟨P',A,B,e⟩:=h.2 h0
  rw [show (((0:Nat):Int))=0 from rfl] at e
  rw [e];rfl
end
section
structure OkM (l:List au) (R C:Int):Prop where
 len:l.length<=200
 ent: ∀x∈l,inE R C x
 srt: ∀k (hk:k<l.length), ∀y∈l.take k,ltE y l[k]
theorem Wf {x y z:au} (h:ltE x y) (g:ltE y z):ltE x z:=by unfold ltE at*;omega
open Classical in
theorem Xl {l:List au} {R C:Int} (h:uU l R C=true):OkM l R C:=by
 unfold uU at h
 obtain ⟨f,e⟩:=jN h
 refine ⟨f,fun x i=> ?_,fun k=> ?_⟩
 ·obtain ⟨k,d,rfl⟩:=bp i
  by_cases c:inE R C l[k]
  ·exact c
  ·exact absurd ⟨_,vD d,.inl c⟩ (e k)
 ·induction k with
  |zero=>intro d y a;simp at a
  |succ k ih=>
   intro d y a
   rw [db om] at a
   have b:ltE l[k] l[k+1]:=by
    by_cases c:ltE l[k] l[k+1]
    ·exact c
    ·exact absurd ⟨_,vD d,.inr ⟨by omega,_,vD om,c⟩⟩ (e (k+1))
   rcases aX.1 a with a|a
   ·exact Wf (ih om y a) b
   ·rw [dV.1 a];exact b
theorem b6e {R C:Int} {x:au} (h:inE R C x):okF x.Value:=⟨by have:=h.2.2.1;omega,h.2.2.2⟩
def HA (l:List au):List UInt8:=l.flatMap fun x=>[UInt8.ofInt x.Row,UInt8.ofInt x.Col]++ig x.Value
theorem BU (l:List au):(HA l).length=6*l.length:=by
 induction l with
 |nil=>rfl
 |cons x l ih=>simp only [HA,cm,ab,ah] at*;rw [ih];simp [dG];omega
theorem W3 (l:List au) (x:au):HA (l++[x])=HA l++([UInt8.ofInt x.Row,UInt8.ofInt x.Col]++ig x.Value):=by simp [HA]
def PM (l:List au):List UInt8:=ig (l.length:Int)++HA l
def Ou (s:bi):List UInt8:=[115,121,115,116,101,109]++[UInt8.ofInt s.Rows,UInt8.ofInt s.Cols,UInt8.ofInt s.Publics]++PM s.A++PM s.B++PM s.C
theorem Lh (l:List au):(PM l).length=4+6*l.length:=by rw [PM,ab,BU,dG]
theorem Me {l2 L:List UInt8} {t t2 t3 l c4 c5 c6:List au} {t4 c c2 c3:Int} (h:l.length<=200) (hL:L.length<=1000000):Loop (dI l2 t t2 t3 t4 l (l.length:Int) c c2 c3 c4 c5 c6) (L,0)=some (L++HA l,(l.length:Int),false):=by
 have key:=bu (step:=dI l2 t t2 t3 t4 l (l.length:Int) c c2 c3 c4 c5 c6) (fun k=>(L++HA (l.take k),(k:Int))) l.length (e:=(L++HA l,(l.length:Int),false)) (fun k a=> ?_) ?_
 ·simpa [HA] using key
 ·simp only [dI]
  have hn:=BU (l.take k)
  rw [bc] at hn
  rw [brd om,ck a,obs,bt (by simp only [ab,ah,ai];omega),qQ (by simp only [ab,ah,ai];omega),obs,ak _ om om,db a,W3]
  simp only [aV,l5]
 ·simp only [dI]
  rw [brn om,ag om,bk]
theorem a4M {l2 L:List UInt8} {t t2 t3 l c4 c5 c6:List au} {t4 c c2 c3:Int} (h:l.length<=200) (hL:L.length<=1000000):Loop (iH l2 t t2 t3 t4 l (l.length:Int) c c2 c3 c4 c5 c6) (L,0)=some (L++HA l,(l.length:Int),false):=Me (l2:=l2) (t:=t) (t2:=t2) (t3:=t3) (c4:=c4) (c5:=c5) (c6:=c6) (t4:=t4) (c:=c) (c2:=c2) (c3:=c3) h hL
theorem a60 {l2 L:List UInt8} {t t2 t3 l c4 c5 c6:List au} {t4 c c2 c3:Int} (h:l.length<=200) (hL:L.length<=1000000):Loop (iz l2 t t2 t3 t4 l (l.length:Int) c c2 c3 c4 c5 c6) (L,0)=some (L++HA l,(l.length:Int),false):=Me (l2:=l2) (t:=t) (t2:=t2) (t3:=t3) (c4:=c4) (c5:=c5) (c6:=c6) (t4:=t4) (c:=c) (c2:=c2) (c3:=c3) h hL
theorem OY {s:bi} (a:s.A.length<=200) (b:s.B.length<=200) (c:s.C.length<=200):iT s=some (Ou s):=by
 have d:=BU s.A
 have e:=BU s.B
 have c1:=BU s.C
 unfold iT ft
 rw [bt (by simp only [ab,ah,ai];omega),obs]
 dsimp only
 rw [qQ (by simp only [ab,ah,ai];omega),obs,Me a (by simp only [ab,ah,ai,dG];omega),obs,
  qQ (by simp only [ab,ah,ai,dG];omega),obs,a4M b (by simp only [ab,ah,ai,dG];omega),obs,
  qQ (by simp only [ab,ah,ai,dG];omega),obs,a60 c (by simp only [ab,ah,ai,dG];omega),obs]
 simp only [Ou,PM,aV]
theorem a2d (s:bi):(Ou s).length=21+6*(s.A.length+s.B.length+s.C.length):=by
 simp only [Ou,ab,Lh,ah,ai];omega
theorem a47 {l3 L:List UInt8} {l4:List (List au)} {l c4 c5 c6:List au} {c c2 c3:Int} {j:Nat} (a:l4[j]? =some l) (h:l.length<=200) (hL:L.length<=1000000):Loop (iP l3 l4 (j:Int) c c2 c3 c4 c5 c6) (L,0)=some (L++HA l,(l.length:Int),false):=by
 have d:j<l4.length:=by
  rcases cx j l4.length with h|h
  ·exact h
  ·rw [bD h] at a;cases a
 have key:=bu (step:=iP l3 l4 (j:Int) c c2 c3 c4 c5 c6) (fun k=>(L++HA (l.take k),(k:Int))) l.length (e:=(L++HA l,(l.length:Int),false)) (fun k b=> ?_) ?_
 ·simpa [HA] using key
 ·simp only [iP]
  have hn:=BU (l.take k)
  rw [bc] at hn
  rw [brd om,brd om,aK,a,obs,brd om,brd om,brd om,obs,ck b,obs,A4,obs,bt (by rw [dG];simp only [ah,ai];omega),
   bt (by simp only [ab,ah,ai,dG];omega),ak _ om om,db b,W3]
  simp only [aV,l5]
 ·simp only [iP]
  rw [brd om,brd om,aK,a,obs,brn om,ag om,bk]
theorem MA {l3 L:List UInt8} {l4:List (List au)} {l c4 c5 c6:List au} {c c2 c3:Int} {j:Nat} (a:l4[j]? =some l) (d:j<3) (h:l.length<=200) (hL:L.length<=900000):jY l3 l4 c c2 c3 c4 c5 c6 (L,(j:Int))=some (.inl (L++PM l,((j+1:Nat):Int))):=by
 have b:j<l4.length:=by
  rcases cx j l4.length with h|h
  ·exact h
  ·rw [bD h] at a;cases a
 simp only [jY]
 rw [brd om,brd om,brd om,aK,a,obs,A4,obs,bt (by rw [dG];omega),a47 a h (by rw [ab,dG];omega),obs,ak _ om om,PM]
 simp only [aV,l5]
theorem RU {s:bi} (a:s.A.length<=200) (b:s.B.length<=200) (c:s.C.length<=200):vf s=some (H (Ou s)):=by
 have d:=Lh s.A
 have e:=Lh s.B
 have c1:=Lh s.C
 have f:=a2d s
 unfold vf
 rw [bt (by simp only [ah,ai];omega),show (0:Int)=((0:Nat):Int) from rfl,
  cf (MA (l:=s.A) (j:=0) rfl om a (by simp only [ab,ah,ai];omega)),
  cf (MA (l:=s.B) (j:=1) rfl om b (by simp only [ab,ah,ai];omega)),
  cf (MA (l:=s.C) (j:=2) rfl om c (by simp only [ab,ah,ai];omega)),
  bX (by simp only [jY];rw [brn om]),obs]
 dsimp only
 rw [show [115,121,115,116,101,109]++[UInt8.ofInt s.Rows,UInt8.ofInt s.Cols,UInt8.ofInt s.Publics]++PM s.A++PM s.B++PM s.C=Ou s from rfl,tp om];rfl
end
section
def UL:List K->List K->K
 |a::xs,b::ys=>a*b+UL xs ys
 |_,_=>0
theorem a0N: ∀(a b:List K) (c:K),((kv a).zip (kv b)).foldl (fun c p=>eA c (eM p.1 p.2)) c.1=(c+UL a b).1
 |[],b,c=>by
  show c.1=(c+0).1
  exact congrArg Subtype.val (by exact kg)
 |_::_,[],c=>by
  show c.1=(c+0).1
  exact congrArg Subtype.val (by exact kg)
 |x::a,y::b,c=>by
  have:=a0N a b (c+x*y)
  show ((kv a).zip (kv b)).foldl _ (c+x*y).1=_
  rw [this]
  exact congrArg Subtype.val (by rw [UL];exact kg)
theorem a61 (a b:List K):TL (kv a) (kv b)=(UL a b).1:=by
 have:=a0N a b 0
 rw [TL]
 rw [show e0=(0:K).1 from rfl,this]
 exact congrArg Subtype.val (by exact kg)
def btS (β:K) (R T:List K) (x:au):List K:=T.set x.Col.toNat (T.getD x.Col.toNat 0+β*R.getD x.Row.toNat 0*kF x.Value)
theorem pS (β:K) (R:List K): ∀(l:List au) (T:List K),(l.foldl (btS β R) T).length=T.length
 |[],T=>rfl
 |x::l,T=>by rw [p8,pS β R l,btS,bf]
theorem b4k (l:List K) (j:Nat) (x:K):(kv l).set j x.1=kv (l.set j x):=by simp [kv,List.map_set]
theorem Sw {R T:List K} {β:K} {l t t2 t3 c4 c5 c6:List au} {t4 c c2 c3 c9 c10 c11 c12 RR CC:Int} (d:OkM l RR CC) (i:(R.length:Int)=RR) (k:(T.length:Int)=CC):
 Loop (i8 (kv R) t t2 t3 t4 l (l.length:Int) c c2 c3 c4 c5 c6 β.1.A β.1.B c9 c10 c11 c12) (kv T,0)=some (kv (l.foldl (btS β R) T),(l.length:Int),false):=by
 have m:=d.len
 have key:=bu (step:=i8 (kv R) t t2 t3 t4 l (l.length:Int) c c2 c3 c4 c5 c6 β.1.A β.1.B c9 c10 c11 c12) (fun j=>(kv ((l.take j).foldl (btS β R) T),(j:Int))) l.length (e:=(kv (l.foldl (btS β R) T),(l.length:Int),false)) (fun j b=> ?_) ?_
 ·exact key
 ·simp only [i8]
  obtain ⟨h,hc,_⟩:=d.ent _ (aZ b)
  have f:=b6e (d.ent _ (aZ b))
  have hn:=pS β R (l.take j) T
  have a:atL (kv R) l[j].Row=some (R.getD l[j].Row.toNat 0).1:=by
   have:=wE (l:=R) (j:=l[j].Row.toNat) om
   rwa [ew h.1] at this
  rw [brd om,ck b,obs,brd hc.1,brd (by rw [cg,hn];omega),a79 om,obs,a,obs,show Ext.mk β.1.A β.1.B=β.1 from rfl,fQ β.2 (aI _),obs,Ab (rm _ _) f,obs,
   lN (aI _) (b5G _ _),obs,brd hc.1,brd (by rw [cg,hn];omega),obs,ak _ om om,a6x, <-DF f,db b,i0]
  show some (Sum.inl ((kv _).set l[j].Col.toNat ((List.foldl (btS β R) T (l.take j)).getD l[j].Col.toNat 0+β*R.getD l[j].Row.toNat 0*kF l[j].Value).1,_))=_
  rw [b4k];rfl
 ·simp only [i8]
  rw [brn om,ag om,bk]
end
section
def b9B (out:List K) (p:K):List K:=out.map (fun a=>a*(1-p))++out.map (fun a=>a*p)
def eqK (P:List K):List K:=P.foldl b9B [1]
theorem c4x (out:List K) (p:K):eqS (kv out) p.1=kv (b9B out p):=by
 simp only [eqS,kv,b9B,cI,jm];rfl
theorem b3z: ∀(P out:List K),(kv P).foldl eqS (kv out)=kv (P.foldl b9B out)
 |[],out=>rfl
 |p::P,out=>by
  show (kv P).foldl eqS (eqS (kv out) p.1)=_
  rw [c4x,b3z P];rfl
theorem Pt (P:List K):eqT (kv P)=kv (eqK P):=b3z P [1]
theorem c1p (P:List K):(eqK P).length=2^P.length:=by
 have:=Dw (kv P)
 rw [Pt,cg,cg] at this;exact this
variable {kind:Nat} {bh:List K->Source->Source}
end
section
theorem a7n (l:List K) (j:Nat):(kv l).take j=kv (l.take j):=by simp [kv]
theorem a5w: ∀k:Nat,k<=9->1<=2^k/\2^k<=512:=by decide
end
section
abbrev Tx:=List UInt8
def Wi (t:Tx):Tx:=0::t
def O7 (a b:Tx):Tx:=1::(a++b)
def hL (t:Tx):Tx:=H (Wi t)
def hN (a b:Tx):Tx:=H (O7 a b)
theorem b4p {l:List Tx} {k:Nat} (h:k<l.length):atL l (k:Int)=some (l.getD k []):=by simp [atL,h]
theorem UX {t:Tx} (h:t.length<=1000000):yU t=some (Wi t):=by
 unfold yU;rw [bt (by simp only [ah,ai];omega)];rfl
theorem J1 {a b:Tx} (c:a.length<=1000000) (d:b.length<=1000000):tR a b=some (O7 a b):=by
 unfold tR
 rw [bt (by simp only [ah,ai];omega),bt (by simp only [ab,ah,ai];omega)];rfl
theorem b0x {t:Tx} (h:t.length<=1000000):BW t=some (hL t):=by
 unfold BW
 rw [bt (by simp only [ah,ai];omega),tp (by simp only [ab,ah,ai];omega),obs];rfl
def Hs (l:List Tx):Prop:= ∀x∈l,x.length=32
theorem Hs.getD {l:List Tx} (h:Hs l) {k:Nat} (a:k<l.length):(l.getD k []).length=32:=by simp [a];exact h _ (aZ a)
theorem sk {α:Type} (f:Nat->α) (k:Nat):(List.range (k+1)).map f=(List.range k).map f++[f k]:=by rw [gJ,cI];rfl
theorem b2i (i j:Nat):i/2^j/2=i/2^(j+1):=by rw [Nat.div_div_eq_div_mul,fT]
theorem a8q (q:Nat) (h:q<=1000000):IntKind.wrap .i64 ((q:Int)/2)=((q/2:Nat):Int):=by
 rw [ak _ om om];omega
end
section
def o1 (i:Nat) (leaf:Tx) (path:List Tx):Nat->Tx
 |0=>Wi leaf
 |j+1=>if i/2^j%2=1 then O7 (path.getD j []) (H (o1 i leaf path j)) else O7 (H (o1 i leaf path j)) (path.getD j [])
def Cb (i:Nat) (leaf:Tx) (path:List Tx) (j:Nat):List Tx:=(List.range (j+1)).map (o1 i leaf path)
theorem rK (i:Nat) (leaf:Tx) (path:List Tx) (j:Nat):(Cb i leaf path j).length=j+1:=by simp [Cb]
theorem a05 {i:Nat} {leaf:Tx} {path:List Tx} {j m:Nat} (h:m<=j):atL (Cb i leaf path j) (m:Int)=some (o1 i leaf path m):=by
 rw [ck (by rw [rK];omega)];simp [Cb]
theorem a98 (i j:Nat):IntKind.wrap .i64 (((i/2^j:Nat):Int).tdiv 2)=((i/2^(j+1):Nat):Int)\/1000000<i:=by
 by_cases h:i<=1000000
 ·left
  rw [qf _ _ (Int.natCast_nonneg _),a8q _ (e7 (Nat.div_le_self _ _) h),b2i]
 ·right;omega
theorem a8z {l:List Tx} (h:Hs l):(l.any fun x=> !decide (x.length=32))=false:=by
 rw [sO];intro x a;simp [h x a]
theorem c3m {path:List Tx} (b:path.length<=1000) (a:Hs path):cu path=some false:=by
 unfold cu di
 rw [xp (step:=cU path (path.length:Int)) (p:=fun x=> !decide (x.length=32)) (f:=Bn) om (fun x _=>by unfold Bn;rw [A1];rfl) (fun t=>rfl),a8z a]
end
section
theorem c7E: ∀k:Nat,k<=9->KU ((2^k:Nat):Int)=some (k:Int)
 |0,_=>rfl
 |1,_=>rfl
 |2,_=>rfl
 |3,_=>rfl
 |4,_=>rfl
 |5,_=>rfl
 |6,_=>rfl
 |7,_=>rfl
 |8,_=>rfl
 |9,_=>rfl
theorem c6U {k:Nat} (h:k<=9):BG ((2^k:Nat):Int)=some (k:Int):=by
 unfold BG
 have key:Loop (kz ((2^k:Nat):Int)) 0=some ((k:Int),false):=
  bu (step:=kz ((2^k:Nat):Int)) (fun j=>(j:Int)) k (fun j a=>by
   have b:2^j<2^k:=Nat.pow_lt_pow_right om a
   simp only [kz]
   rw [en _ om om,brd om,Cu om,brd om,ak _ om om];rfl) (by
   simp only [kz]
   rw [en _ om om,brd om,Cu om,brn om,ag om])
 rw [key];rfl
def fpK (k i:Nat) (a b r:K):K:=(a+b)*kF (iF 2)+r*(a-b)*(kF (iF 2)*kF (iF (pF (QZ k) i)))
theorem Nb (a:Int):okF (iF a):=Pz _ _
theorem c6y:okF 2:=⟨by decide,by decide⟩
theorem U7 {k i:Nat} (a b r:K) (c:k<=9) (hi:i<=1000):o5 ((2^k:Nat):Int) i a.1 b.1 r.1=some (fpK k i a b r).1:=by
 unfold o5
 rw [Dd c6y,obs,c7E k c,obs,a80 om,obs,Pu (a03 k) om om,obs,lN a.2 b.2,obs,Ab (VE _ _) (Nb 2),obs,qW a.2 b.2,obs,
  fQ r.2 (zd _ _),obs,Dd (Pz _ _),obs,pH (Nb 2) (Nb _),obs,Ab (rm _ _) (py _ _),obs,lN (b5G _ _) (b5G _ _),obs,aK,a6x,a6x, <-DF (Nb 2), <-DF (py _ _),b3d];rfl
theorem b9d: ∀m:Nat,m<=9-> ∀t:Nat,t<=m->bW .i64 ((2^m:Nat):Int) (t:Int)=((2^(m-t):Nat):Int):=by decide+kernel
theorem c58 (a b:List K):kv (a++b)=kv a++kv b:=by simp [kv]
end
section
theorem b06 {k i:Nat} (a b r:K) (c:k<=9) (hi:i<=1000):oh ((2^k:Nat):Int) i a.1 b.1 r.1=some (fpK k i a b r).1:=by
 unfold oh m7
 rw [c6U c,obs,b0t om,obs,RD (a03 k) om om,obs,DR c6y,obs,obs,lO a.2 b.2,obs,KJ,obs,fB (VE _ _) (a7k (Nb 2)),obs,Hb a.2 b.2,obs,
  DR (Pz _ _),obs,obs,vA (Nb 2) (Nb _),obs,KJ,obs,fB (zd _ _) (a7k (py _ _)),obs,fB r.2 (rm _ _),obs,lO (rm _ _) (rm _ _),obs,aK, <-DF (Nb 2), <-DF (py _ _),b3d]
 have:(a+b)*kF (iF 2)+r*((a-b)*(kF (iF 2)*kF (iF (pF (QZ k) i))))=fpK k i a b r:=by unfold fpK;exact kg
 rw [<-this];rfl
theorem a7m (k:Nat) (a:k+1<=9):IntKind.wrap .i64 (((2^(k+1):Nat):Int).tdiv 2)=((2^k:Nat):Int):=by
 have b:=a5w (k+1) a
 have c:2^(k+1)=2*2^k:=by rw [fT];omega
 rw [qf _ _ om,ak _ om om];omega
theorem a3C {s:Source} {k:Int} (h:Few s k) (a:k<=999890) {n:Nat} (hn:n<=100) {m:Int} (b:1<=m):vB s (n:Int) m=some (drS s n,plM (drL s n) m):=by
 unfold vB
 rw [MC h a om,obs]
 have:=a37 (l:=drL s n) (m:=m) (c:=s.Script) (c2:=s.At) (c3:=s.State) (c4:=s.Count) (c5:=0) (c6:=[]) (c7:=0) (c8:=(drS s n).Script) (c9:=(drS s n).At) (c10:=(drS s n).State) (c11:=(drS s n).Count) (by rw [oQ];omega) (Rl h a om) om
 rw [oQ] at this
 rw [this,obs]
end
section
def Xa (n:Nat) (p:Nat->Bool):Bool:=(List.range n).all p
theorem uW {n:Nat} {p:Nat->Bool}:Xa n p=true↔ ∀j,j<n->p j=true:=by simp [Xa]
theorem Lo {n:Nat} {p:Nat->Bool} (h: ∀j,j<n->p j=true):Xa n p=true:=uW.2 h
theorem b9O {n:Nat} {p:Nat->Bool} {k:Nat} (a:k<n) (h:p k=false):Xa n p=false:=by
 refine Bool.eq_false_iff.2 fun e=> ?_
 rw [uW.1 e k a] at h;cases h
theorem Bz {E1 E2 R:Type} {step:Int->Option (Int⊕(E1⊕E2))} (n:Nat) (p:Nat->Bool) (e1:Nat->E1) {e2:E2} {f:E1->Option R} {g:E2->Option R} {x y:R} (d: ∀k,k<n->p k=true->step (k:Int)=some (.inl ((k+1:Nat):Int)))
 (h: ∀k,k<n->p k=false->step (k:Int)=some (.inr (.inl (e1 k)))) (i:step (n:Int)=some (.inr (.inr e2))) (j: ∀e,f e=some x) (l:g e2=some y):
 (Loop step 0).bind (alt f g)=some (if Xa n p=true then y else x):=by
 rcases Bx (step:=step) (fun k=>(k:Int)) n p (fun k=> .inl (e1 k)) d h i with ⟨b,c⟩|⟨k,m,b,_,c⟩
 ·have a:Loop step 0=_:=c
  rw [a,ae (Lo b),obs,ny,l]
 ·have a:Loop step 0=_:=c
  rw [a,aa (by rw [b9O m b];decide),obs,kW,j]
theorem a04 {b:Bool}:(if b=true then true else false)=b:=by cases b<;>rfl
def h32 (x:List UInt8):Bool:=decide (x.length=32)
theorem Mg {l:List (List UInt8)} (a:l.length<=1099511627776):gL l=some (l.all h32):=by
 unfold gL cc co
 rw [xp (step:=bY l (l.length:Int)) (p:=fun x=> !h32 x) (f:=i6) a (fun x _=>by unfold i6;rw [A1];rfl) (fun t=>rfl),obs,vv]
def vl (size:Int) (g:List Ext):Bool:=decide ((g.length:Int)=size)&&g.all n0
def Ep (R:List (List Ext)) (many size:Int):Bool:=decide ((R.length:Int)=many)&&R.all (vl size)
theorem S5 {α C:Type} {p:α->Bool} {f:α->C->Option (Bool×C)} {l:List α} {c:C} (o:l.length<=1099511627776) (m: ∀x∈l,f x c=some (p x,c)) {step:Int×C->Option ((Int×C)⊕((Int×C)⊕(Int×Bool×C)))}
 (b: ∀t,step (t,c)=br (decide (t<(l.length:Int))) ((atL l t).bind fun x=>(f x c).bind fun r=>br r.1 (some (.inr (.inl (t,r.2)))) (some (.inl (IntKind.wrap .i64 (t+1),r.2)))) (some (.inr (.inr (t,decide (t<(l.length:Int)),c))))):
 ∃n:Int,Loop step (0,c)=some (if l.any p then .inl (n,c) else .inr (n,false,c))/\0<=n:=by
 have key:=Bx (step:=step) (fun k=>((k:Int),c)) l.length (fun k=> !((l[k]?.map p).getD false)) (fun k=> .inl ((k:Int),c)) (e:= .inr ((l.length:Int),false,c)) (fun k a d=>by
  have h:p l[k]=false:=by simpa [a] using d
  rw [b,brd om,ck a,obs,m _ (aZ a),obs,h,ba,ak _ om om];rfl)
  (fun k a d=>by
   have h:p l[k]=true:=by simpa [a] using d
   rw [b,brd om,ck a,obs,m _ (aZ a),obs,h,cK])
  (by rw [b,brn om,ag om])
 rcases key with ⟨i,j⟩|⟨k,a,i,_,j⟩
 ·exact ⟨(l.length:Int),by rw [a75 (fun k a=>by simpa [a] using i k a)];exact j,by omega⟩
 ·exact ⟨(k:Int),by rw [RB a (by simpa [a] using i)];exact j,by omega⟩
theorem z1 {R:List (List Ext)} {many size:Int} (b:R.length<=1099511627776) (d: ∀g∈R,g.length<=1099511627776):nK R many size=some (Ep R many size):=by
 unfold nK Ep
 by_cases h:(R.length:Int)=many
 ·rw [bre h,al h]
  obtain ⟨n,e,hn⟩:=S5 (c:=size) (p:=fun g=> !vl size g) (f:=pM) (l:=R) b (fun x i=>by
   unfold pM vl
   by_cases a:(x.length:Int)=size
   ·rw [fk a,M3 (d x i),obs,al a];rfl
   ·rw [brb a,ag a];rfl) (step:=cG R (R.length:Int)) (fun t=>rfl)
  unfold cJ cW
  rw [e, <-vv (vl size)]
  cases (R.any fun g=> !vl size g)
  ·rfl
  ·simp only [ae,obs,kW,al (show n>=0 from hn)];rfl
 ·rw [kO h,ag h];rfl
def a1O (vars:Int) (t:Setting) (q:Query) (j:Nat):Bool:=decide (((q.Paths.getD j []).length:Int)=vars+t.Rate-1-j)&&(q.Paths.getD j []).all h32
def KH (vars:Int) (t:Setting) (q:Query):Bool:=decide ((q.Pairs.length:Int)=2*vars)&&(q.Pairs.all n0&&(decide ((q.Paths.length:Int)=vars)&&Xa vars.toNat (a1O vars t q)))
def okO (o:Opening) (vars:Int) (t:Setting):Bool:=decide (1<=vars/\vars<=6)&&(setB t&&(Ep o.Rounds vars 3&&(decide ((o.Roots.length:Int)=vars-1)&&(o.Roots.all h32&&(n0 o.Last&&(decide (0<=o.Nonce/\o.Nonce<=65535)&&(decide ((o.Queries.length:Int)=t.Queries)&&o.Queries.all (KH vars t))))))))
structure SmO (o:Opening):Prop where
 rn:o.Rounds.length<=1099511627776
 rr: ∀g∈o.Rounds,g.length<=1099511627776
 ro:o.Roots.length<=1099511627776
 qn:o.Queries.length<=1099511627776
 qp: ∀q∈o.Queries,q.Pairs.length<=1099511627776
 qt: ∀q∈o.Queries, ∀p∈q.Paths,p.length<=1099511627776
theorem JD {l:List (List (List UInt8))} {j:Nat} (h:j<l.length):atL l (j:Int)=some (l.getD j []):=by rw [ck h];simp [h]
theorem YY {l:List (List (List UInt8))} {j:Nat} (h:j<l.length):l.getD j []∈l:=by simp [h]
theorem Yy {q:Query} {vars:Int} {t:Setting} (h:1<=vars/\vars<=6) (d:setB t=true) (a:q.Pairs.length<=1099511627776) (c: ∀p∈q.Paths,p.length<=1099511627776):xY q vars t=some (KH vars t q):=by
 have i:=xn d
 unfold xY KH
 rw [ak _ om om]
 by_cases c1:(q.Pairs.length:Int)=2*vars
 ·rw [fk c1,al c1,M3 a,obs]
  cases m:q.Pairs.all n0
  ·rfl
  ·rw [aH,ba]
   by_cases c2:(q.Paths.length:Int)=vars
   ·rw [fk c2,al c2]
    have hn:vars.toNat=q.Paths.length:=by omega
    have key:=Bz (step:=kI vars q.Paths (q.Paths.length:Int) q.Pairs q.Paths t.Rate t.Queries t.Grind) vars.toNat (a1O vars t q) (fun _=>()) (e2:=((vars.toNat:Int),false)) (f:=fun _=>some false) (g:=fun _=>some true) (x:=false) (y:=true) (fun k e a=>by
     have b:=c _ (YY (l:=q.Paths) (j:=k) om)
     simp only [a1O,aD,aC] at a
     simp only [kI]
     rw [brd om,JD om,obs,ak (vars+t.Rate) om om,ak (vars+t.Rate-1) om om,ak (vars+t.Rate-1-k) om om,fk a.1,Mg b,obs,a.2,aH,ba,ak _ om om];rfl) (fun k e a=>by
     have b:=c _ (YY (l:=q.Paths) (j:=k) om)
     simp only [kI]
     rw [brd om,JD om,obs,ak (vars+t.Rate) om om,ak (vars+t.Rate-1) om om,ak (vars+t.Rate-1-k) om om]
     by_cases c3:((q.Paths.getD k []).length:Int)=vars+t.Rate-1-k
     ·rw [fk c3,Mg b,obs]
      rw [a1O,al c3,aN] at a
      rw [a];rfl
     ·rw [brb c3]) (by
     simp only [kI]
     rw [brn om,ag om]) (fun _=>rfl) rfl
    rw [a04] at key
    rw [key];rfl
   ·rw [brb c2,ag c2];rfl
 ·rw [brb c1,ag c1];rfl
theorem PI {o:Opening} {vars:Int} {t:Setting} (S:SmO o):vL o vars t=some (okO o vars t):=by
 unfold vL okO
 rw [GS,obs]
 by_cases a:1<=vars/\vars<=6
 ·rw [al a,al a.1,al a.2,nm,cK,yI,obs,aN]
  cases d:setB t
  ·rfl
  ·rw [cK,z1 S.rn S.rr,obs,aN]
   cases h:Ep o.Rounds vars 3
   ·rfl
   ·rw [cK,ak _ om om,aN]
    by_cases c1:(o.Roots.length:Int)=vars-1
    ·rw [bre c1,al c1,Mg S.ro,obs,aN]
     cases i:o.Roots.all h32
     ·rfl
     ·rw [cK,tQ,obs,aN]
      cases j:n0 o.Last
      ·rfl
      ·rw [cK,GS,obs,aN]
       by_cases c2:0<=o.Nonce/\o.Nonce<=65535
       ·rw [al c2,al c2.1,al c2.2,nm,cK,aN]
        by_cases c3:(o.Queries.length:Int)=t.Queries
        ·rw [bre c3,al c3,aN]
         obtain ⟨n,e,hn⟩:=S5 (c:=(vars,t.Rate,t.Queries,t.Grind)) (p:=fun q=> !KH vars t q) (f:=fun x c=>(dx x c.1 ⟨c.2.1,c.2.2.1,c.2.2.2⟩).bind fun r=>some (r.1,r.2.1,r.2.2.Rate,r.2.2.Queries,r.2.2.Grind)) (l:=o.Queries) S.qn (fun x b=>by
          unfold dx uz
          show ((((xY x vars t).bind _).bind _).bind _)=_
          rw [Yy a d (S.qp x b) (S.qt x b)];rfl) (step:=bm o.Queries (o.Queries.length:Int)) (fun z=>by
          show bm _ _ (z,vars,t.Rate,t.Queries,t.Grind)=_
          simp only [bm]
          congr 1
          cases atL o.Queries z with
          |none=>rfl
          |some x=>
           simp only [obs]
           cases dx x vars ⟨t.Rate,t.Queries,t.Grind⟩<;>rfl)
         unfold hK bK bO
         rw [e, <-vv (KH vars t)]
         cases (o.Queries.any fun q=> !KH vars t q)
         ·rfl
         ·simp only [ae,obs,kW,al (show n>=0 from hn)]
        ·rw [kO c3,ag c3];rfl
       ·rw [ag c2]
        have:(decide (0<=o.Nonce)&&decide (o.Nonce<=65535))=false:=by
         rw [<-pw];exact ag c2
        rw [this];rfl
    ·rw [kO c1,ag c1];rfl
 ·rw [ag a]
  have:(decide (1<=vars)&&decide (vars<=6))=false:=by
   rw [<-pw];exact ag a
  rw [this];rfl
end
section
theorem C9 {α:Type} (l:List α) (d:α) (P:α->Bool):Xa l.length (fun k=>P (l.getD k d))=l.all P:=by
 refine pp.2 ⟨fun h=>aB.2 fun x b=> ?_,fun h=>Lo fun k a=> ?_⟩
 ·obtain ⟨k,a,rfl⟩:=bp b
  have:=uW.1 h k a
  simpa [a] using this
 ·have:=aB.1 h _ (aZ a)
  simpa [a] using this
theorem pX {α:Type} {l:List α} {d:α} {j:Nat} (h:j<l.length):atL l (j:Int)=some (l.getD j d):=by rw [ck h];simp [h]
theorem Qs {a f:Int} {c30:List (List Ext)} {c31:List (List UInt8)} {c32 c33 c34:Int} {c35:List Query} {c36 c37 c38:Int} {c39:List Ext} {C:List (List (List UInt8))} {j:Nat} (b:j<C.length) (h:(C.getD j []).length<=1099511627776) {R:Type} {x y:R}:
 (Loop (iR a f (j:Int) c30 c31 c32 c33 c34 c35 c36 c37 c38 c39 C) 0).bind (alt (fun _=>some x) (fun _=>some y))=some (if (C.getD j []).all h32=true then y else x):=by
 rw [<-C9 (C.getD j []) [] h32]
 refine Bz (C.getD j []).length _ (fun _=>()) (fun k c e=> ?_) (fun k c e=> ?_) (e2:=(((C.getD j []).length:Int),false)) ?_ (fun _=>rfl) rfl
 ·simp only [iR]
  simp only [h32,aC] at e
  rw [JD b,obs,brd om,obs,pX (d:=[]) c,obs,fk om,ak _ om om];rfl
 ·simp only [iR]
  simp only [h32,bw] at e
  rw [JD b,obs,brd om,obs,pX (d:=[]) c,obs,brb om]
 ·simp only [iR]
  rw [JD b,obs,brn om,ag om]
theorem T5 {vars:Int} {t:Setting} {q:Query} {d:Int} {c19:List (List Ext)} {c20:List (List UInt8)} {c21 c22 c23:Int} {c24:List Query} {c26 c27:Int} {c28:List Ext} (h:1<=vars/\vars<=6) (e:setB t=true) (i:(q.Paths.length:Int)=vars) (c: ∀p∈q.Paths,p.length<=1099511627776) {R:Type} {x y:R}:
 (Loop (iL vars d c19 c20 c21 c22 c23 c24 t.Rate c26 c27 c28 q.Paths) 0).bind (alt (fun _=>some x) (fun _=>some y))=some (if Xa vars.toNat (a1O vars t q)=true then y else x):=by
 have m:=xn e
 refine Bz vars.toNat _ (fun _=>()) (fun k f a=> ?_) (fun k f a=> ?_) (e2:=((vars.toNat:Int),false)) ?_ (fun _=>rfl) rfl
 ·have b:=c _ (YY (l:=q.Paths) (j:=k) om)
  simp only [a1O,aD,aC] at a
  simp only [iL]
  rw [brd om,JD om,obs,ak (vars+t.Rate) om om,ak (vars+t.Rate-1) om om,ak (vars+t.Rate-1-k) om om,fk a.1,Qs om b,ae a.2,ak _ om om];rfl
 ·have b:=c _ (YY (l:=q.Paths) (j:=k) om)
  simp only [iL]
  rw [brd om,JD om,obs,ak (vars+t.Rate) om om,ak (vars+t.Rate-1) om om,ak (vars+t.Rate-1-k) om om]
  by_cases c3:((q.Paths.getD k []).length:Int)=vars+t.Rate-1-k
  ·rw [a1O,al c3,aN] at a
   rw [fk c3,Qs om b,aa (by rw [a];decide)]
  ·rw [brb c3]
 ·simp only [iL]
  rw [brn om,ag om]
theorem XY {vars:Int} {t:Setting} {o:Opening} {c14 c12 c13:Int} {c10:List (List Ext)} {c11:List (List UInt8)} {c17 c18:Int} (S:SmO o) (e:1<=vars/\vars<=6) (f:setB t=true) {R:Type} {x y:R}:
 (Loop (gU vars c10 c11 c12 c13 c14 o.Queries t.Rate c17 c18) 0).bind (alt (fun _=>some x) (fun _=>some y))=some (if o.Queries.all (KH vars t)=true then y else x):=by
 rw [<-C9 o.Queries ⟨[],[]⟩ (KH vars t)]
 have h: ∀k,k<o.Queries.length->o.Queries.getD k ⟨[],[]⟩∈o.Queries:=fun k b=>by simp [b]
 have i:=S.qn
 refine Bz o.Queries.length _ (fun k=>((o.Queries.getD k ⟨[],[]⟩).Pairs,(o.Queries.getD k ⟨[],[]⟩).Paths)) (fun k b a=> ?_) (fun k b a=> ?_) (e2:=((o.Queries.length:Int),false)) ?_ (fun _=>rfl) rfl
 ·have c:=h k b
  simp only [KH,aD,aC] at a
  simp only [gU]
  rw [brd om,pX (d:=⟨[],[]⟩) b,obs,ak (2*vars) om om,fk a.1,oc (S.qp _ c),obs,a.2.1,aH,ba,fk a.2.2.1,T5 e f a.2.2.1 (S.qt _ c),ae a.2.2.2,ak _ om om];rfl
 ·have c:=h k b
  simp only [gU]
  rw [brd om,pX (d:=⟨[],[]⟩) b,obs,ak (2*vars) om om]
  rw [KH] at a
  by_cases c1:((o.Queries.getD k ⟨[],[]⟩).Pairs.length:Int)=2*vars
  ·rw [fk c1,oc (S.qp _ c),obs]
   rw [al c1,aN] at a
   cases j:(o.Queries.getD k ⟨[],[]⟩).Pairs.all n0
   ·rfl
   ·rw [aH,ba]
    rw [j,aN] at a
    by_cases c2:((o.Queries.getD k ⟨[],[]⟩).Paths.length:Int)=vars
    ·rw [al c2,aN] at a
     rw [fk c2,T5 e f c2 (S.qt _ c),aa (by rw [a];decide)]
    ·rw [brb c2]
  ·rw [brb c1]
 ·simp only [gU]
  rw [brn om,ag om]
theorem SJ {o:Opening} {vars:Int} {t:Setting} (S:SmO o):vO o vars t=some (okO o vars t):=by
 unfold vO okO
 rw [KP,obs]
 by_cases a:1<=vars/\vars<=6
 ·rw [al a,al a.1,al a.2,nm,aH,ba,y6,obs,aN]
  cases m:setB t
  ·rfl
  ·rw [aH,ba,ak _ om om,aN,Ep]
   by_cases e:(o.Rounds.length:Int)=vars
   ·rw [fk e,al e,aN]
    by_cases c1:(o.Roots.length:Int)=vars-1
    ·rw [fk c1,al c1,aN]
     by_cases c3:(o.Queries.length:Int)=t.Queries
     ·rw [fk c3,al c3,aN,Rr,obs]
      cases p:n0 o.Last
      ·rw [du,cK];cases o.Rounds.all (vl 3)<;>cases o.Roots.all h32<;>rfl
      ·rw [aH,ba,KP,obs,aN]
       by_cases c2:0<=o.Nonce/\o.Nonce<=65535
       ·rw [al c2,al c2.1,al c2.2,nm,aH,ba,aN]
        have key:=Bz (step:=iN vars o.Rounds o.Roots o.Last.A o.Last.B o.Nonce o.Queries t.Rate t.Queries t.Grind) vars.toNat (fun i=>vl 3 (o.Rounds.getD i [])&&(decide (i=0)||h32 (o.Roots.getD (i-1) []))) (fun _=>()) (e2:=((vars.toNat:Int),false)) (f:=fun _=>some false)
         (g:=fun _=>(Loop (gU vars o.Rounds o.Roots o.Last.A o.Last.B o.Nonce o.Queries t.Rate t.Queries t.Grind) 0).bind (alt (fun e_11=>some false) (fun e_12=>some true))) (x:=false) (y:=o.Queries.all (KH vars t)) (fun k j b=>by
         simp only [aD,cY,vl,h32,aC] at b
         have l:=S.rr _ (show o.Rounds.getD k []∈o.Rounds by simp [show k<o.Rounds.length by omega])
         simp only [iN]
         rw [brd om,pX (d:=[]) om,obs,fk b.1.1,obs,oc l,obs,b.1.2,aH,ba,ak ((k:Int)+1) om om]
         by_cases h0:k=0
         ·rw [brn om];rfl
         ·rw [brd om,ak _ om om,show (k:Int)-1=((k-1:Nat):Int) by omega,pX (d:=[]) om,obs,fk (by have:=b.2.resolve_left h0;omega)];rfl) (fun k j b=>by
         have l:=S.rr _ (show o.Rounds.getD k []∈o.Rounds by simp [show k<o.Rounds.length by omega])
         simp only [iN]
         rw [brd om,pX (d:=[]) om,obs]
         by_cases c4:((o.Rounds.getD k []).length:Int)=3
         ·rw [fk c4,obs,oc l,obs]
          cases n:(o.Rounds.getD k []).all n0
          ·rfl
          ·rw [vl,al c4,n,aN,aN,Bool.or_eq_false_iff,bw,h32,bw] at b
           rw [aH,ba,brd om,ak _ om om,show (k:Int)-1=((k-1:Nat):Int) by omega,pX (d:=[]) om,obs,brb om]
         ·rw [brb c4]) (by
         simp only [iN]
         rw [brn om,ag om]) (fun _=>rfl) (by rw [XY S a m,a04])
        rw [key]
        have c:Xa vars.toNat (fun i=>vl 3 (o.Rounds.getD i [])&&(decide (i=0)||h32 (o.Roots.getD (i-1) [])))=(o.Rounds.all (vl 3)&&o.Roots.all h32):=by
         rw [<-C9 o.Rounds [], <-C9 o.Roots []]
         refine pp.2 ⟨fun h=> ?_,fun h=> ?_⟩
         ·rw [aD]
          refine ⟨Lo fun k j=> ?_,Lo fun k j=> ?_⟩
          ·have:=uW.1 h k om
           simp only [aD] at this;exact this.1
          ·have:=uW.1 h (k+1) om
           simpa using (aD _ _▸this).2
         ·rw [aD] at h
          refine Lo fun k j=> ?_
          rw [aD]
          refine ⟨uW.1 h.1 k om, ?_⟩
          by_cases h0:k=0
          ·simp [h0]
          ·have:=uW.1 h.2 (k-1) om
           simp only [cY];exact .inr this
        rw [c]
        cases o.Rounds.all (vl 3)<;>cases o.Roots.all h32<;>simp
       ·have:(decide (0<=o.Nonce)&&decide (o.Nonce<=65535))=false:=by
         rw [<-pw];exact ag c2
        rw [ag c2,this,du,cK]
        cases o.Rounds.all (vl 3)<;>cases o.Roots.all h32<;>rfl
     ·rw [brb c3,ag c3]
      cases o.Rounds.all (vl 3)<;>cases o.Roots.all h32<;>cases n0 o.Last<;>cases decide (0<=o.Nonce/\o.Nonce<=65535)<;>rfl
    ·rw [brb c1,ag c1];cases o.Rounds.all (vl 3)<;>rfl
   ·rw [brb e,ag e];rfl
 ·rw [ag a]
  have:(decide (1<=vars)&&decide (vars<=6))=false:=by
   rw [<-pw];exact ag a
  rw [this];rfl
end
section
end
section
end
section
variable {kind:Nat}
theorem We {c7 c8 c9 c11:Int} {c10:List UInt8} (f:kind=1\/kind=2): ∀(R pre:List (List K)) (c:K) (s:Source) (k:Int) (P:List Ext),Few s k->k+3*R.length<=999990->P.length+R.length<=999990->pre.length+R.length<=999990->
 ((vfM kind bv0 R pre.length c s).1=0->Loop (dX (kind:Int) (kvv (pre++R)) ((pre++R).length:Int) c7 c8 c9 c10 c11) (P,(pre.length:Int),c.1.A,c.1.B,s.Script,s.At,s.State,s.Count)=
   some (.inr (.inr (P++kv (vfM kind bv0 R pre.length c s).2.1,((pre++R).length:Int),false,(vfM kind bv0 R pre.length c s).2.2.1.1.A,(vfM kind bv0 R pre.length c s).2.2.1.1.B,(vfM kind bv0 R pre.length c s).2.2.2.Script,(vfM kind bv0 R pre.length c s).2.2.2.At,(vfM kind bv0 R pre.length c s).2.2.2.State,(vfM kind bv0 R pre.length c s).2.2.2.Count))))/\
 ((vfM kind bv0 R pre.length c s).1≠0->((vfM kind bv0 R pre.length c s).1=18/\ ∃P' A B C D E F S0 S1 S2 S3,Loop (dX (kind:Int) (kvv (pre++R)) ((pre++R).length:Int) c7 c8 c9 c10 c11) (P,(pre.length:Int),c.1.A,c.1.B,s.Script,s.At,s.State,s.Count)=
   some (.inl (P',[],A,B,C,D,E,F,S0,S1,S2,S3))/\Source.mk S0 S1 S2 S3=(vfM kind bv0 R pre.length c s).2.2.2)\/
   ((vfM kind bv0 R pre.length c s).1=10/\ ∃P' A B C D E F S0 S1 S2 S3,Loop (dX (kind:Int) (kvv (pre++R)) ((pre++R).length:Int) c7 c8 c9 c10 c11) (P,(pre.length:Int),c.1.A,c.1.B,s.Script,s.At,s.State,s.Count)=
   some (.inr (.inl (P',[],A,B,C,D,E,F,S0,S1,S2,S3)))/\Source.mk S0 S1 S2 S3=(vfM kind bv0 R pre.length c s).2.2.2))
 |[],pre,c,s,k,P,b,n,o,p=>by
  refine ⟨fun _=>bX ?_,fun h=>absurd rfl h⟩
  simp only [dX,bU]
  rw [brn om,ag om]
  simp [vfM,kv]
 |g::R,pre,c,s,k,P,b,n,o,p=>by
  rw [ah] at n o p
  have hat:atL (kvv (pre++g::R)) (pre.length:Int)=some (kv g):=by rw [WA (by simp)];simp
  have a:(pre.length:Int)<((pre++g::R).length:Int):=by rw [ab,ah];omega
  have l:vQ (kind:Int)=some ((kind+1:Nat):Int):=by unfold vQ;rw [ak _ om om];rfl
  rw [vfM]
  by_cases m:g.length=kind+2
  ·by_cases d:g.getD 0 0+g.getD 1 0=c
   ·rw [ae m,ae d]
    have ih:=We (c7:=c7) (c8:=c8) (c9:=c9) (c10:=c10) (c11:=c11) f R (pre++[g]) (lnK g (rdM s g)) (nsM s g) (k+2) (P++[(rdM s g).1]) (Ja b om g) om (by rw [ab,am];omega) (by rw [ab,am];omega)
    rw [aV,aU,ab,am] at ih
    have step:dX (kind:Int) (kvv (pre++g::R)) ((pre++g::R).length:Int) c7 c8 c9 c10 c11 (P,(pre.length:Int),c.1.A,c.1.B,s.Script,s.At,s.State,s.Count)=
     some (.inl (P++[(rdM s g).1],((pre.length+1:Nat):Int),(lnK g (rdM s g)).1.A,(lnK g (rdM s g)).1.B,(nsM s g).Script,(nsM s g).At,(nsM s g).State,(nsM s g).Count)):=by
     simp only [dX]
     rw [brd a,hat,obs,l,obs,ak _ om om,fk (by rw [cg];omega),atK (i:=0) (j:=0) rfl om,obs,atK (i:=1) (j:=1) rfl om,obs,lO (aI _) (aI _),obs]
     rw [show eA (g.getD 0 0).1 (g.getD 1 0).1=c.1 from congrArg Subtype.val d,bre rfl,bre rfl,show Source.mk s.Script s.At s.State s.Count=s from rfl,QH b.1 om,obs,c2o b,obs]
     dsimp only
     rw [Wb _ om,obs,bt (by rw [ab,am];omega),ak _ om om];rfl
    refine ⟨fun h=> ?_,fun h=> ?_⟩
    ·rw [cf step,ih.1 h]
     simp [kv,bv0]
    ·rcases ih.2 h with ⟨q,P',A,B,C,D,E,F,S0,S1,S2,S3,e,e2⟩|⟨q,P',A,B,C,D,E,F,S0,S1,S2,S3,e,e2⟩
     ·exact .inl ⟨q,P',A,B,C,D,E,F,S0,S1,S2,S3,by rw [cf step,e],e2⟩
     ·exact .inr ⟨q,P',A,B,C,D,E,F,S0,S1,S2,S3,by rw [cf step,e],e2⟩
   ·rw [ae m,aa d]
    refine ⟨fun h=>absurd (show (10:Int)=0 from h) (by decide),fun _=> .inr ⟨rfl,P,c.1.A,c.1.B,s.Script,s.At,s.State,s.Count,s.Script,s.At,s.State,s.Count,bX ?_,rfl⟩⟩
    simp only [dX]
    rw [brd a,hat,obs,l,obs,ak _ om om,fk (by rw [cg];omega),atK (i:=0) (j:=0) rfl om,obs,atK (i:=1) (j:=1) rfl om,obs,lO (aI _) (aI _),obs]
    rw [show eA (g.getD 0 0).1 (g.getD 1 0).1=(g.getD 0 0+g.getD 1 0).1 from rfl,HB,aa d]
  ·rw [aa m]
   refine ⟨fun h=>absurd (show (18:Int)=0 from h) (by decide),fun _=> .inl ⟨rfl,P,c.1.A,c.1.B,s.Script,s.At,s.State,s.Count,s.Script,s.At,s.State,s.Count,bX ?_,rfl⟩⟩
   simp only [dX]
   rw [brd a,hat,obs,l,obs,ak _ om om,brb (by rw [cg];omega)]
theorem Ny (a:kind=1\/kind=2) {R:List (List K)} {c:K} {s:Source} {k:Int} (b:Few s k) (d:k+3*R.length<=999990):
 lU (kind:Int) c.1 (kvv R) (R.length:Int) s=some (if (vfM kind bv0 R 0 c s).1=0 then (kv (vfM kind bv0 R 0 c s).2.1,(vfM kind bv0 R 0 c s).2.2.1.1,(vfM kind bv0 R 0 c s).2.2.2,0) else ([],e0,(vfM kind bv0 R 0 c s).2.2.2,(vfM kind bv0 R 0 c s).1)):=by
 have f:0<=k:=by have:=b.2;have:=b.1.4;omega
 have h:=We (c7:=0) (c8:=0) (c9:=0) (c10:=[]) (c11:=0) a R [] c s k [] b d (by rw [ai];omega) (by rw [ai];omega)
 rw [bg,ai] at h
 unfold lU
 rw [Ws,fk rfl]
 by_cases h0:(vfM kind bv0 R 0 c s).1=0
 ·rw [ae h0]
  have:=h.1 h0
  rw [show (((0:Nat):Int))=0 from rfl] at this
  rw [this];rfl
 ·rw [aa h0]
  rcases h.2 h0 with ⟨q,P',A,B,C,D,E,F,S0,S1,S2,S3,e,e2⟩|⟨q,P',A,B,C,D,E,F,S0,S1,S2,S3,e,e2⟩
  ·rw [show (((0:Nat):Int))=0 from rfl] at e
   rw [e,q, <-e2];rfl
  ·rw [show (((0:Nat):Int))=0 from rfl] at e
   rw [e,q, <-e2];rfl
end
section
variable {v ρ:Nat} {t P:List K} {s:Source} {k:Int}
end
section
end
section
def eaK:List K->List K->K->K
 |x::A,b::B,c=>eaK A B (c*(x*b+(1-x)*(1-b)))
 |_,_,c=>c
def wy (a b:K):List UInt8:=[a.1,b.1].flatMap e8
def a8C (due:Option K) (x:K):Prop:= ∃d,due=some d/\x≠d
noncomputable instance c5X (due:Option K) (x:K):Decidable (a8C due x):=Classical.propDecidable _
noncomputable def qcK (l:K):Nat->List (List UInt8)->List K->List (List (List UInt8))->List K->Nat->Option K->Int
 |m,rt::rts,a::b::prs,p::pths,r::P,k,due=>
  if (H (o1 (k%2^(m-1)) (wy a b) p (m-1))==rt)=false then 9
  else if a8C due (if 2^(m-1)<=k then b else a) then 12
  else qcK l (m-1) rts prs pths P (k%2^(m-1)) (some (fpK m (k%2^(m-1)) a b r))
 |_,_,_,_,_,_,due=>if due=some l then 0 else 13
noncomputable def qsC (l:K) (m:Nat) (rts:List (List UInt8)) (D:List K):List Int->List Query->Int
 |p::ps,q::qs=>if qcK l m rts (q.Pairs.map toK) q.Paths D p.toNat none=0 then qsC l m rts D ps qs else qcK l m rts (q.Pairs.map toK) q.Paths D p.toNat none
 |_,_=>0
def bvO (v:Nat) (rts:List (List UInt8)) (j:Nat) (s:Source):Source:=if j+1<v then tkM s (rts.getD j []) else s
theorem XH (v:Nat) (rts:List (List UInt8)):c4P (bvO v rts):=fun j s k h a=>by
 unfold bvO;split
 ·exact h.take _
 ·exact h.mono om
noncomputable def chC (m bits nq:Nat) (root:List UInt8) (P:List K) (rts:List (List UInt8)) (l:K) (nonce:Int) (qs:List Query) (q:Int×List K×K×Source):Int:=
 if q.1=0 then
  if l*eaK q.2.1 P 1=q.2.2.1 then
   if S8 (rsM q.2.2.2 [l]).State bits nonce=true then qsC l m (root::rts) q.2.1 (plM (drL (tkM (rsM q.2.2.2 [l]) (ig nonce)) nq) ((2^(m-1):Nat):Int)) qs
   else 14
  else 11
 else q.1
def chS (nq:Nat) (l:K) (nonce:Int) (q:Int×List K×K×Source):Source:=drS (tkM (rsM q.2.2.2 [l]) (ig nonce)) nq
variable {v ρ:Nat} {t P:List K} {s:Source} {k:Int}
end
section
theorem c8B: ∀i:Nat,i<512-> ∀j:Nat,j<9->(cM .i64 (bW .i64 (i:Int) (j:Int)) 1==1)=decide (i/2^j%2=1):=by decide+kernel
theorem c5Q {i k:Nat} {leaf:Tx} {path:List Tx} (hi:i<512) (l:k<=9) (m:leaf.length<=1000) (b:path.length=k) (a:Hs path):Lu i leaf path=some (Cb i leaf path k):=by
 unfold Lu
 rw [UX om,obs,b]
 have key:Loop (nL i path k) ([Wi leaf],0)=some (Cb i leaf path k,(k:Int),false):=by
  refine bu (step:=nL i path k) (fun j=>(Cb i leaf path j,(j:Int))) k (fun j n=> ?_) ?_
  ·have o:=a.getD (k:=j) om
   have p:=E7 (o1 i leaf path j)
   simp only [nL]
   have e:=a05 (i:=i) (leaf:=leaf) (path:=path) (aw j)
   rw [ck (by rw [rK];omega),Option.some.injEq] at e
   have e2:(Cb i leaf path j)[(j:Int).toNat]? =some (o1 i leaf path j):=by
    rw [aK,vD (by rw [rK];omega),e]
   have d:(o1 i leaf path j).length<=100000000:=by
    cases j with
    |zero=>simp only [o1,Wi,ah];omega
    |succ j=>
     have f:=a.getD (k:=j) om
     have h:=E7 (o1 i leaf path j)
     simp only [o1]
     split<;>simp only [O7,ah,ab]<;>omega
   rw [brd om,b4p om,obs,brd om,brd (by rw [rK];omega),e2,obs,NE d,obs,brd om,c8B i hi j om]
   by_cases c:i/2^j%2=1
   ·rw [brd c,J1 om om,obs,bt (by simp only [ab,rK,am];omega),ak _ om om,Cb,Cb,sk _ (j+1)]
    simp only [o1,ae c];rfl
   ·rw [brn c,J1 om om,obs,bt (by simp only [ab,rK,am];omega),ak _ om om,Cb,Cb,sk _ (j+1)]
    simp only [o1,aa c];rfl
  ·simp only [nL]
   rw [brn om,ag om]
 rw [key];rfl
theorem up9 {i k:Nat} {leaf:Tx} {path:List Tx} (hi:i<512) (f:k<=9) (h:leaf.length<=1000) (l:path.length=k) (a:Hs path):Lx i leaf path=some (Cb i leaf path k,H (o1 i leaf path k)):=by
 unfold Lx
 rw [bt (by simp only [am];omega),b0x om,obs]
 have key:Loop (nF path) ([[0]++leaf],(i:Int),hL leaf,0)=some (Cb i leaf path k,((i/2^k:Nat):Int),H (o1 i leaf path k),(k:Int),false):=by
  have key:=bu (step:=nF path) (fun j=>(Cb i leaf path j,((i/2^j:Nat):Int),H (o1 i leaf path j),(j:Int))) k (e:=(Cb i leaf path k,((i/2^k:Nat):Int),H (o1 i leaf path k),(k:Int),false)) (fun j m=> ?_) ?_
  ·have e0:i/2^0=i:=by simp
   rw [e0] at key
   exact key
  ·have n:=a.getD (k:=j) om
   have o:=E7 (o1 i leaf path j)
   have b:IntKind.wrap .i64 (((i/2^j:Nat):Int).tdiv 2)=((i/2^(j+1):Nat):Int):=(a98 i j).resolve_right om
   have d:(((i/2^j:Nat):Int).tmod 2==1)=decide (i/2^j%2=1):=by
    rw [ej _ _ (Int.natCast_nonneg _)]
    generalize i/2^j=q
    by_cases c:q%2=1
    ·rw [al c];simp;omega
    ·rw [ag c];simp;omega
   simp only [nF]
   rw [brd om,bt (by simp only [am];omega),b4p om,obs,bt (by simp only [ab,am];omega),d,b]
   by_cases c:i/2^j%2=1
   ·rw [brd c,obs,bt (by simp only [am];omega),bt (by simp only [ab,am];omega),bt (by simp only [ab,rK,am];omega),
     tp (by simp only [ab,am];omega),obs,ak _ om om,Cb,Cb,sk _ (j+1)]
    simp only [o1,ae c,O7,aU,eO,bg,l5]
   ·rw [brn c,bt (by simp only [ab,rK,am];omega),
     tp (by simp only [ab,am];omega),obs,ak _ om om,Cb,Cb,sk _ (j+1)]
    simp only [o1,aa c,O7,aU,eO,bg,l5]
  ·simp only [nF]
   rw [brn om,ag om]
 rw [key];rfl
theorem c2R {root:Tx} {i k:Nat} {leaf:Tx} {path:List Tx} (hi:i<512) (b:k<=9) (h:leaf.length<=64) (c:path.length=k) (a:Hs path):Hi root ((2^k:Nat):Int) i leaf path=some (H (o1 i leaf path k)==root):=by
 unfold Hi
 have d:(o1 i leaf path k).length<=100000000:=by
  cases k with
  |zero=>simp only [o1,Wi,ah];omega
  |succ j=>
   have e:=a.getD (k:=j) om
   have f:=E7 (o1 i leaf path j)
   simp only [o1]
   split<;>simp only [O7,ah,ab]<;>omega
 rw [brn om,c7E k b,obs,fk om,c3m om a,obs,ba,c5Q hi b om c a,obs,rK,ak _ om om,show (((k+1:Nat):Int))-1=(k:Int) by omega,a05 (aw k),obs,NE d];rfl
theorem QR: ∀k:Nat,k<=9->bC .i64 1 (k:Int)=((2^k:Nat):Int):=by decide+kernel
theorem c2P {root:Tx} {i k:Nat} {leaf:Tx} {path:List Tx} (hi:i<512) (a:k<=9) (e:leaf.length<=64) (b:path.length=k) (c:Hs path):ta root ((2^k:Nat):Int) i leaf path=some (H (o1 i leaf path k)==root):=by
 unfold ta
 have d:mn 20 (path.length:Int)=(k:Int):=by rw [b];simp only [mn];omega
 rw [brn om,d,en _ om om,brd om,QR k a,fk rfl]
 have key:Loop (jF root i leaf path) 0=some (.inr ((path.length:Int),false)):=
  bu (step:=jF root i leaf path) (fun j=>(j:Int)) path.length (fun j f=>by
   have h:=c.getD (k:=j) om
   simp only [jF]
   rw [brd om,b4p om,obs,fk om,ak _ om om];rfl) (by
   simp only [jF]
   rw [brn om,ag om])
 rw [key,obs,ny,up9 hi a om b c];rfl
end
section
end
section
end
section
variable {v ρ:Nat} {t P:List K} {s:Source} {k:Int}
end
section
def QSh:Nat->List (List UInt8)->List K->List (List (List UInt8))->List K->Prop
 |_,[],[],[],[]=>True
 |m,_::rts,_::_::prs,p::pths,_::D=>1<=m/\p.length=m-1/\Hs p/\QSh (m-1) rts prs pths D
 |_,_,_,_,_=>False
def Bt:Option K->Ext
 |none=>e0
 |some d=>d.1
theorem n3 {α:Type} {pre l:List α} {x:α} {i:Int} (h:i=(pre.length:Int)):atL (pre++x::l) i=some x:=by subst h;rw [ck (by simp)];simp
theorem AC (pre l:List K):kv (pre++l)=kv pre++kv l:=c58 pre l
theorem VJ {l:K} {V:Int} {c:List (List Ext)} {c2:List (List UInt8)} {c3 c4 c5:Int} {c6:List Query}: ∀(rts:List (List UInt8)) (prs:List K) (pths:List (List (List UInt8))) (D:List K) (m:Nat) (preR:List (List UInt8)) (preP:List K) (preT:List (List (List UInt8))) (preD:List K) (k:Nat) (due:Option K),
 QSh m rts prs pths D->m<=9->preP.length=2*preR.length->preT.length=preR.length->preD.length=preR.length->V=((preR.length+rts.length:Nat):Int)->preR.length+rts.length<=100->k<2^9->(due=none↔preR.length=0)->(rts=[]->due≠none)->
 (Loop (jw (preR++rts) V (kv (preD++D)) c c2 c3 c4 c5 c6 (kv (preP++prs)) (preT++pths)) (((2^m:Nat):Int),(k:Int),(preR.length:Int),(Bt due).A,(Bt due).B)).bind (alt (fun e_2=>some e_2.1) (fun e_3=>br (e_3.2.2.2.2.1==l.1.A) (br (e_3.2.2.2.2.2==l.1.B) (some 0) (some 13)) (some 13)))=
  some (qcK l m rts prs pths D k due)
 |[],prs,pths,D,m,preR,preP,preT,preD,k,due,h,hm,h1,h2,h3,hV,hb,hk,hd,hn=>by
  match prs,pths,D,h with
  |[],[],[],_=>
   cases due with
   |none=>exact absurd rfl (hn rfl)
   |some d=>
    rw [bX (e:= .inr (((2^m:Nat):Int),(k:Int),(preR.length:Int),false,d.1.A,d.1.B)) (by
     simp only [jw,Bt]
     rw [brn (by rw [hV,ai];omega),ag (by rw [hV,ai];omega)])]
    rw [obs,ny]
    dsimp only
    rw [HB]
    show _=some (if some d=some l then (0:Int) else 13)
    by_cases e:d=l
    ·rw [ae e,ae (by rw [e])]
    ·rw [aa e,aa (fun h=>e (cZ h))]
 |rt::rts,prs,pths,D,m,preR,preP,preT,preD,k,due,h,hm,h1,h2,h3,hV,hb,hk,hd,hn=>by
  match prs,pths,D,h with
  |a::b::prs,p::pths,r::D,⟨hm1,hpl,hph,hq⟩=>
   obtain ⟨q,rfl⟩: ∃q,m=q+1:=⟨m-1,by omega⟩
   rw [ah] at hV hb
   have hp:=a5w (q+1) hm
   have hs:2^(q+1)=2*2^q:=by rw [fT];omega
   have hh:=a7m q hm
   have hat:k%2^q<2^q:=gt _ om
   have hmod:(k:Int).tmod ((2^q:Nat):Int)=((k%2^q:Nat):Int):=by rw [ej _ _ om];omega
   have hk2:k%2^q<2^9:=bP hat om
   have hcheck:ta rt ((2^q:Nat):Int) ((k%2^q:Nat):Int) (wy a b) p=some (H (o1 (k%2^q) (wy a b) p q)==rt):=c2P om om (by rw [wy,Pn];simp) om hph
   have ih:=VJ (l:=l) (V:=V) (c:=c) (c2:=c2) (c3:=c3) (c4:=c4) (c5:=c5) (c6:=c6) rts prs pths D q (preR++[rt]) (preP++[a,b]) (preT++[p]) (preD++[r]) (k%2^q) (some (fpK (q+1) (k%2^q) a b r)) hq om
    (by simp only [ab,ah,ai];omega) (by simp only [ab,ah,ai];omega) (by simp only [ab,ah,ai];omega) (by rw [hV];simp only [ab,ah,ai];omega) (by simp only [ab,ah,ai];omega) hk2 (by simp) (by simp)
   simp only [aV,aU,eO,bg,ab,am] at ih
   have hR:atL (preR++rt::rts) (preR.length:Int)=some rt:=n3 rfl
   have hT:atL (preT++p::pths) (preR.length:Int)=some p:=n3 om
   have hD:atL (kv (preD++r::D)) (preR.length:Int)=some r.1:=by rw [AC];exact n3 (by rw [cg];omega)
   have hA:atL (kv (preP++a::b::prs)) (2*(preR.length:Int))=some a.1:=by rw [AC];exact n3 (by rw [cg];omega)
   have hB:atL (kv (preP++a::b::prs)) (2*(preR.length:Int)+1)=some b.1:=by
    rw [show preP++a::b::prs=(preP++[a])++b::prs by simp,AC];exact n3 (by rw [cg,ab,am];omega)
   have hstep:jw (preR++rt::rts) V (kv (preD++r::D)) c c2 c3 c4 c5 c6 (kv (preP++a::b::prs)) (preT++p::pths) (((2^(q+1):Nat):Int),(k:Int),(preR.length:Int),(Bt due).A,(Bt due).B)=
    if (H (o1 (k%2^q) (wy a b) p q)==rt)=false then some (.inr (.inl (9,(Bt due).A,(Bt due).B,a.1.A,a.1.B,b.1.A,b.1.B)))
    else if a8C due (if 2^q<=k then b else a) then some (.inr (.inl (12,(Bt due).A,(Bt due).B,a.1.A,a.1.B,b.1.A,b.1.B)))
    else some (.inl (((2^q:Nat):Int),((k%2^q:Nat):Int),((preR.length+1:Nat):Int),(fpK (q+1) (k%2^q) a b r).1.A,(fpK (q+1) (k%2^q) a b r).1.B)):=by
    simp only [jw,hh]
    rw [brd om,brd om,ak (2*(preR.length:Int)) om om,hA,obs,ak (2*(preR.length:Int)+1) om om,hB,obs,hR,obs,Ri (by simp),obs,hT,obs,hmod,show ([a.1,b.1]:List Ext).flatMap e8=wy a b from rfl,hcheck,obs]
    cases hc:(H (o1 (k%2^q) (wy a b) p q)==rt) with
    |false=>rw [ae rfl,du,cK]
    |true=>
     rw [aa (by simp),aH,ba]
     have hpair:=b06 (k:=q+1) (i:=k%2^q) a b r hm om
     cases due with
     |none=>
      rw [brn (by have:=hd.1 rfl;omega),hD,obs,hpair,obs,ak _ om om,aa (by rintro ⟨d,h,_⟩;cases h)];rfl
     |some d=>
      rw [brd (by have:preR.length≠0:=fun e=>by cases hd.2 e
                  omega)]
      by_cases hlow:k<2^q
      ·have hown:(if 2^q<=k then b else a)=a:=aa om
       rw [hown,brd om,al (show (k:Int)<((2^q:Nat):Int) by omega)]
       show br (a.1.A==d.1.A) (br (a.1.B==d.1.B) _ _) _=_
       rw [HB]
       by_cases e:a=d
       ·rw [ae e,aa (by rintro ⟨x,h,h'⟩;cases h;exact h' e),hD,obs,hpair,obs,ak _ om om];rfl
       ·rw [aa e,ae ⟨d,rfl,e⟩]
      ·have hown:(if 2^q<=k then b else a)=b:=ae om
       rw [hown,brn om,ag (show ¬(k:Int)<((2^q:Nat):Int) by omega)]
       show br (b.1.A==d.1.A) (br (b.1.B==d.1.B) _ _) _=_
       rw [HB]
       by_cases e:b=d
       ·rw [ae e,aa (by rintro ⟨x,h,h'⟩;cases h;exact h' e),hD,obs,hpair,obs,ak _ om om];rfl
       ·rw [aa e,ae ⟨d,rfl,e⟩]
   rw [qcK,j4]
   by_cases hc:(H (o1 (k%2^q) (wy a b) p q)==rt)=false
   ·rw [ae hc] at hstep ⊢
    rw [bX hstep,obs,kW]
   ·rw [aa hc] at hstep ⊢
    by_cases ho:a8C due (if 2^q<=k then b else a)
    ·rw [ae ho] at hstep ⊢
     rw [bX hstep,obs,kW]
    ·rw [aa ho] at hstep ⊢
     rw [cf hstep];exact ih
theorem Vi {l:K} {M:Nat} {V:Int} {c:List (List Ext)} {c2:List (List UInt8)} {c3 c4 c5:Int} {c6:List Query}: ∀(rts:List (List UInt8)) (prs:List K) (pths:List (List (List UInt8))) (D:List K) (m:Nat) (preR:List (List UInt8)) (preP:List K) (preT:List (List (List UInt8))) (preD:List K) (k:Nat) (due:Option K),
 QSh m rts prs pths D->M<=9->m+preR.length=M->preP.length=2*preR.length->preT.length=preR.length->preD.length=preR.length->V=((preR.length+rts.length:Nat):Int)->preR.length+rts.length<=100->k<2^9->(due=none↔preR.length=0)->(rts=[]->due≠none)->
 (Loop (fa (kv (preD++D)) ((2^M:Nat):Int) (preR++rts) V c c2 c3 c4 c5 c6 (kv (preP++prs)) (preT++pths)) ((k:Int),(preR.length:Int),(Bt due).A,(Bt due).B)).bind (alt (fun e_2=>some 9) (alt (fun e_3=>some 12) (fun e_4=>br (e_4.2.2.2.1==l.1.A) (br (e_4.2.2.2.2==l.1.B) (some 0) (some 13)) (some 13))))=
  some (qcK l m rts prs pths D k due)
 |[],prs,pths,D,m,preR,preP,preT,preD,k,due,h,hM,hm,h1,h2,h3,hV,hb,hk,hd,hn=>by
  match prs,pths,D,h with
  |[],[],[],_=>
   cases due with
   |none=>exact absurd rfl (hn rfl)
   |some d=>
    rw [bX (e:= .inr (.inr ((k:Int),(preR.length:Int),false,d.1.A,d.1.B))) (by
     simp only [fa,Bt]
     rw [brn (by rw [hV,ai];omega),ag (by rw [hV,ai];omega)])]
    rw [obs,ny,ny]
    dsimp only
    rw [HB]
    show _=some (if some d=some l then (0:Int) else 13)
    by_cases e:d=l
    ·rw [ae e,ae (by rw [e])]
    ·rw [aa e,aa (fun h=>e (cZ h))]
 |rt::rts,prs,pths,D,m,preR,preP,preT,preD,k,due,h,hM,hm,h1,h2,h3,hV,hb,hk,hd,hn=>by
  match prs,pths,D,h with
  |a::b::prs,p::pths,r::D,⟨hm1,hpl,hph,hq⟩=>
   obtain ⟨q,rfl⟩: ∃q,m=q+1:=⟨m-1,by omega⟩
   rw [ah] at hV hb
   have hp:=a5w (q+1) om
   have hs:2^(q+1)=2*2^q:=by rw [fT];omega
   have hsh:bW .i64 ((2^M:Nat):Int) (preR.length:Int)=((2^(q+1):Nat):Int):=by rw [b9d M hM preR.length om,show M-preR.length=q+1 by omega]
   have hh:=a7m q om
   have hat:k%2^q<2^q:=gt _ om
   have hmod:(k:Int).tmod ((2^q:Nat):Int)=((k%2^q:Nat):Int):=by rw [ej _ _ om];omega
   have hk2:k%2^q<2^9:=bP hat om
   have hcheck:Hi rt ((2^q:Nat):Int) ((k%2^q:Nat):Int) (wy a b) p=some (H (o1 (k%2^q) (wy a b) p q)==rt):=c2R om om (by rw [wy,Pn];simp) om hph
   have ih:=Vi (l:=l) (M:=M) (V:=V) (c:=c) (c2:=c2) (c3:=c3) (c4:=c4) (c5:=c5) (c6:=c6) rts prs pths D q (preR++[rt]) (preP++[a,b]) (preT++[p]) (preD++[r]) (k%2^q) (some (fpK (q+1) (k%2^q) a b r)) hq hM
    (by simp only [ab,ah,ai];omega) (by simp only [ab,ah,ai];omega) (by simp only [ab,ah,ai];omega) (by simp only [ab,ah,ai];omega) (by rw [hV];simp only [ab,ah,ai];omega) (by simp only [ab,ah,ai];omega) hk2 (by simp) (by simp)
   simp only [aV,aU,eO,bg,ab,am] at ih
   have hR:atL (preR++rt::rts) (preR.length:Int)=some rt:=n3 rfl
   have hT:atL (preT++p::pths) (preR.length:Int)=some p:=n3 om
   have hD:atL (kv (preD++r::D)) (preR.length:Int)=some r.1:=by rw [AC];exact n3 (by rw [cg];omega)
   have hA:atL (kv (preP++a::b::prs)) (2*(preR.length:Int))=some a.1:=by rw [AC];exact n3 (by rw [cg];omega)
   have hB:atL (kv (preP++a::b::prs)) (2*(preR.length:Int)+1)=some b.1:=by
    rw [show preP++a::b::prs=(preP++[a])++b::prs by simp,AC];exact n3 (by rw [cg,ab,am];omega)
   have hstep:(H (o1 (k%2^q) (wy a b) p q)==rt)=false/\(∃e,fa (kv (preD++r::D)) ((2^M:Nat):Int) (preR++rt::rts) V c c2 c3 c4 c5 c6 (kv (preP++a::b::prs)) (preT++p::pths) ((k:Int),(preR.length:Int),(Bt due).A,(Bt due).B)=some (.inr (.inl e)))\/
    (H (o1 (k%2^q) (wy a b) p q)==rt)=true/\a8C due (if 2^q<=k then b else a)/\(∃e,fa (kv (preD++r::D)) ((2^M:Nat):Int) (preR++rt::rts) V c c2 c3 c4 c5 c6 (kv (preP++a::b::prs)) (preT++p::pths) ((k:Int),(preR.length:Int),(Bt due).A,(Bt due).B)=some (.inr (.inr (.inl e))))\/
    (H (o1 (k%2^q) (wy a b) p q)==rt)=true/\ ¬a8C due (if 2^q<=k then b else a)/\fa (kv (preD++r::D)) ((2^M:Nat):Int) (preR++rt::rts) V c c2 c3 c4 c5 c6 (kv (preP++a::b::prs)) (preT++p::pths) ((k:Int),(preR.length:Int),(Bt due).A,(Bt due).B)=
     some (.inl (((k%2^q:Nat):Int),((preR.length+1:Nat):Int),(fpK (q+1) (k%2^q) a b r).1.A,(fpK (q+1) (k%2^q) a b r).1.B)):=by
    have hpair:=U7 (k:=q+1) (i:=k%2^q) a b r om om
    simp only [fa,hsh,hh]
    rw [brd om,hR,obs,brd om,brd om,ak (2*(preR.length:Int)) om om,hA,obs,ak (2*(preR.length:Int)+1) om om,hB,obs,IA (by simp),obs,hT,obs,hmod,show ([a.1,b.1]:List Ext).flatMap e8=wy a b from rfl,hcheck,obs]
    cases hc:(H (o1 (k%2^q) (wy a b) p q)==rt) with
    |false=>exact .inl ⟨rfl,_,rfl⟩
    |true=>
     refine .inr ?_
     rw [aH,ba]
     by_cases hlow:k<2^q
     ·have hown:(if 2^q<=k then b else a)=a:=aa om
      rw [hown,brn om]
      cases due with
      |none=>
       refine .inr ⟨rfl,(by rintro ⟨d,h,_⟩;cases h), ?_⟩
       rw [brn (by have:=hd.1 rfl;omega),hD,obs,hpair,obs,ak _ om om];rfl
      |some d=>
       rw [brd (by have:preR.length≠0:=fun e=>by cases hd.2 e
                   omega)]
       rw [show (Bt (some d))=d.1 from rfl,HB]
       by_cases e:a=d
       ·rw [ae e]
        refine .inr ⟨rfl,by rintro ⟨x,h,h'⟩;cases h;exact h' e, ?_⟩
        rw [hD,obs,hpair,obs,ak _ om om];rfl
       ·rw [aa e]
        exact .inl ⟨rfl,⟨d,rfl,e⟩,_,rfl⟩
     ·have hown:(if 2^q<=k then b else a)=b:=ae om
      rw [hown,brd om]
      cases due with
      |none=>
       refine .inr ⟨rfl,(by rintro ⟨d,h,_⟩;cases h), ?_⟩
       rw [brn (by have:=hd.1 rfl;omega),hD,obs,hpair,obs,ak _ om om];rfl
      |some d=>
       rw [brd (by have:preR.length≠0:=fun e=>by cases hd.2 e
                   omega)]
       rw [show (Bt (some d))=d.1 from rfl,HB]
       by_cases e:b=d
       ·rw [ae e]
        refine .inr ⟨rfl,by rintro ⟨x,h,h'⟩;cases h;exact h' e, ?_⟩
        rw [hD,obs,hpair,obs,ak _ om om];rfl
       ·rw [aa e]
        exact .inl ⟨rfl,⟨d,rfl,e⟩,_,rfl⟩
   rw [qcK,j4]
   rcases hstep with ⟨hc,e,he⟩|⟨hc,ho,e,he⟩|⟨hc,ho,he⟩
   ·rw [ae hc,bX he,obs,kW]
   ·rw [aa (by rw [hc];simp),ae ho,bX he,obs,ny,kW]
   ·rw [aa (by rw [hc];simp),aa ho,cf he];exact ih
end
section
def flB (P:List (List (List UInt8))):List UInt8:=P.flatMap fun x=>x.flatMap id
structure BoO (o:Opening):Prop where
 rn:o.Rounds.length<=6
 rr: ∀g∈o.Rounds,g.length<=3
 ro:o.Roots.length<=6
 rh: ∀x∈o.Roots,x.length<=32
 qn:o.Queries.length<=8
 qp: ∀q∈o.Queries,q.Pairs.length<=12
 qt: ∀q∈o.Queries,q.Paths.length<=6
 qq: ∀q∈o.Queries, ∀p∈q.Paths,p.length<=8/\ ∀x∈p,x.length<=32
theorem b8P {l:List (List UInt8)}:l.all h32=true↔ ∀x∈l,x.length=32:=by simp [aB,h32]
theorem Mv {v:Nat} {t:Setting} {q:Query} (h:KH (v:Int) t q=true):q.Pairs.length=2*v/\hG q.Pairs/\q.Paths.length=v/\ ∀j,j<v->(((q.Paths.getD j []).length:Nat):Int)=v+t.Rate-1-j/\ ∀x∈q.Paths.getD j [],x.length=32:=by
 unfold KH at h
 simp only [aD,aC] at h
 refine ⟨by omega,b9s.1 h.2.1,by omega,fun j a=> ?_⟩
 have:=uW.1 h.2.2.2 j om
 unfold a1O at this
 simp only [aD,aC] at this
 exact ⟨this.1,b8P.1 this.2⟩
structure OkO (o:Opening) (v:Nat) (t:Setting):Prop where
 v1:1<=v/\v<=6
 st:setB t=true
 rn:o.Rounds.length=v
 rr: ∀g∈o.Rounds,g.length=3/\hG g
 ro:o.Roots.length=v-1
 rh: ∀x∈o.Roots,x.length=32
 la:okE o.Last
 no:0<=o.Nonce/\o.Nonce<=65535
 qn:(o.Queries.length:Int)=t.Queries
 qq: ∀q∈o.Queries,KH (v:Int) t q=true
theorem b0H {o:Opening} {v:Nat} {t:Setting} (h:okO o (v:Int) t=true):OkO o v t:=by
 unfold okO Ep at h
 simp only [aD,aC,aB] at h
 obtain ⟨l,b,⟨m,c⟩,n,d,e,f,i,a⟩:=h
 refine ⟨by omega,b,by omega,fun g j=> ?_,by omega,fun x k=> ?_,Ka.1 e,f,i,a⟩
 ·have:=c g j
  unfold vl at this
  simp only [aD,aC] at this
  exact ⟨by omega,b9s.1 this.2⟩
 ·have:=d x k
  simpa [h32] using this
theorem BoO.sm {o:Opening} (h:BoO o):SmO o:=⟨by have:=h.rn;omega,fun g b=>by have:=h.rr g b;omega,by have:=h.ro;omega,by have:=h.qn;omega,fun q a=>by have:=h.qp q a;omega,fun q a p c=>by have:=(h.qq q a p c).1;omega⟩
variable {o:Opening} {v:Nat} {t:Setting}
end
section
theorem Vz: ∀(A B preA preB:List K) (acc:K),A.length=B.length->preA.length=preB.length->preA.length+A.length<=100->
 Loop (kB (kv (preA++A)) (kv (preB++B)) 0 0) ((preA.length:Int),acc.1.A,acc.1.B)=some (((preA++A).length:Int),false,(eaK A B acc).1.A,(eaK A B acc).1.B)
 |[],B,preA,preB,acc,h1,h2,h3=>by
  refine bX ?_
  simp only [kB,cg]
  rw [brn (by simp),ag (by simp)];simp [eaK]
 |x::A,[],preA,preB,acc,h1,h2,h3=>by simp at h1
 |x::A,b::B,preA,preB,acc,h1,h2,h3=>by
  rw [ah,ah] at h1
  rw [ah] at h3
  have ih:=Vz A B (preA++[x]) (preB++[b]) (acc*(x*b+(1-x)*(1-b))) om (by rw [ab,ab,am,am];omega) (by rw [ab,am];omega)
  rw [aV,aV,aU,aU,show (preA++[x]).length=preA.length+1 by simp] at ih
  have hx:atL (kv (preA++x::A)) (preA.length:Int)=some x.1:=by rw [AC];exact n3 (by rw [cg])
  have hb:atL (kv (preB++b::B)) (preA.length:Int)=some b.1:=by rw [AC];exact n3 (by rw [cg];omega)
  rw [cf (s':=(((preA.length+1:Nat):Int),(acc*(x*b+(1-x)*(1-b))).1.A,(acc*(x*b+(1-x)*(1-b))).1.B)) ?_]
  ·rw [ih];rfl
  ·simp only [kB,cg]
   rw [brd (by rw [ab,ah];omega),hx,obs,hb,obs,fB x.2 b.2,obs,obs,Hf x.2,obs,obs,Hf b.2,obs,fB (zd _ _) (zd _ _),obs,lO (rm _ _) (rm _ _),obs,show Ext.mk acc.1.A acc.1.B=acc.1 from rfl,fB acc.2 (VE _ _),obs,ak _ om om];rfl
theorem a7h {A B:List K} (h:A.length=B.length) (a:A.length<=100):sY (kv A) (kv B)=some (eaK A B 1).1:=by
 have:=Vz A B [] [] 1 h rfl (by rw [ai];omega)
 unfold sY
 rw [QA,obs]
 rw [bg,bg,ai] at this
 have key:Loop (kB (kv A) (kv B) 0 0) (0,e1.A,e1.B)=_:=this
 rw [key];rfl
theorem Vn: ∀(A B preA preB:List K) (acc:K),A.length=B.length->preA.length=preB.length->preA.length+A.length<=100->
 Loop (qF (kv (preB++B)) (kv (preA++A)) ((preA++A).length:Int) 0 0) ((preA.length:Int),acc.1.A,acc.1.B)=some (((preA++A).length:Int),false,(eaK A B acc).1.A,(eaK A B acc).1.B)
 |[],B,preA,preB,acc,h1,h2,h3=>by
  refine bX ?_
  simp only [qF]
  rw [brn (by simp),ag (by simp)];simp [eaK]
 |x::A,[],preA,preB,acc,h1,h2,h3=>by simp at h1
 |x::A,b::B,preA,preB,acc,h1,h2,h3=>by
  rw [ah,ah] at h1
  rw [ah] at h3
  have ih:=Vn A B (preA++[x]) (preB++[b]) (acc*(x*b+(1-x)*(1-b))) om (by rw [ab,ab,am,am];omega) (by rw [ab,am];omega)
  rw [aV,aV,aU,aU,show (preA++[x]).length=preA.length+1 by simp] at ih
  have hx:atL (kv (preA++x::A)) (preA.length:Int)=some x.1:=by rw [AC];exact n3 (by rw [cg])
  have hb:atL (kv (preB++b::B)) (preA.length:Int)=some b.1:=by rw [AC];exact n3 (by rw [cg];omega)
  rw [cf (s':=(((preA.length+1:Nat):Int),(acc*(x*b+(1-x)*(1-b))).1.A,(acc*(x*b+(1-x)*(1-b))).1.B)) ?_]
  ·rw [ih];rfl
  ·simp only [qF]
   rw [brd (by rw [ab,ah];omega),hx,obs,hb,obs,fQ x.2 b.2,obs,Ll,obs,qW a3d x.2,obs,obs,obs,qW a3d b.2,obs,fQ (zd _ _) (zd _ _),obs,lN (rm _ _) (rm _ _),obs,show Ext.mk acc.1.A acc.1.B=acc.1 from rfl,fQ acc.2 (VE _ _),obs,ak _ om om];rfl
theorem a7G {A B:List K} (h:A.length=B.length) (a:A.length<=100):Jk (kv A) (kv B)=some (eaK A B 1).1:=by
 have:=Vn A B [] [] 1 h rfl (by rw [ai];omega)
 unfold Jk
 rw [Ll,obs,cg]
 rw [bg,bg,ai] at this
 have key:Loop (qF (kv B) (kv A) (A.length:Int) 0 0) (0,e1.A,e1.B)=_:=this
 rw [key];rfl
theorem c2r {L:List Ext} (h:hG L):kv (L.map toK)=L:=by
 rw [kv,jm]
 refine (cC fun x a=> ?_).trans (List.map_id _)
 exact m1 (h x a)
theorem b2H: ∀(n m:Nat) (rts:List (List UInt8)) (prs:List K) (pths:List (List (List UInt8))) (D:List K),n<=m->rts.length=n->prs.length=2*n->pths.length=n->D.length=n->(∀j,j<n->(pths.getD j []).length=m-1-j/\ ∀x∈pths.getD j [],x.length=32)->QSh m rts prs pths D
 |0,m,[],[],[],[],_,_,_,_,_,_=>trivial
 |0,m,_::_,_,_,_,_,h,_,_,_,_=>by simp at h
 |0,m,_,_::_,_,_,_,_,h,_,_,_=>by simp at h
 |0,m,_,_,_::_,_,_,_,_,h,_,_=>by simp at h
 |0,m,_,_,_,_::_,_,_,_,_,h,_=>by simp at h
 |n+1,m,rts,prs,pths,D,l,d,c,e,f,i=>by
  match rts,prs,pths,D,d,c,e,f with
  |rt::rts,a::b::prs,p::pths,r::D,d,c,e,f=>
   simp only [ah] at d c e f
   have h0:=i 0 om
   exact ⟨by omega,by have:=h0.1;simpa using this,fun x k=>h0.2 x k,b2H n (m-1) rts prs pths D om om om om om fun j o=>by
    have:=i (j+1) om
    exact ⟨this.1.trans om,this.2⟩⟩
  |[],_,_,_,d,_,_,_=>simp at d
  |_::_,[],_,_,_,c,_,_=>simp at c
  |_::_,[_],_,_,_,c,_,_=>simp at c;omega
  |_::_,_::_::_,[],_,_,_,e,_=>simp at e
  |_::_,_::_::_,_::_,[],_,_,_,f=>simp at f
variable {o:Opening} {v ρ:Nat} {t:Setting} {root:List UInt8} {D:List K} {q:Query}
theorem c1R (h:OkO o v t) (e1:t.Rate=(ρ:Int)) (a:D.length=v) (b:q∈o.Queries):QSh (v+ρ) (root::o.Roots) (q.Pairs.map toK) q.Paths D:=by
 obtain ⟨c,i,d,e⟩:=Mv (h.qq q b)
 have k:=h.v1
 have l:=xn h.st
 have m:=h.ro
 exact b2H v (v+ρ) _ _ _ _ om (by rw [ah];omega) (by rw [aO,c]) d a fun j f=>by
  have:=e j f
  exact ⟨by omega,this.2⟩
theorem a5f (h:OkO o v t) (e1:t.Rate=(ρ:Int)) (b:D.length=v) (a:q∈o.Queries) {p:Int} (h0:0<=p) (d:p<512):
 Ct (root::o.Roots) (v:Int) ((2^(v+ρ):Nat):Int) p (kv D) o q=some (qcK (toK o.Last) (v+ρ) (root::o.Roots) (q.Pairs.map toK) q.Paths D p.toNat none):=by
 have e:=xn h.st
 have f:=h.v1
 have i:=h.ro
 have key:=VJ (l:=toK o.Last) (V:=(v:Int)) (c:=o.Rounds) (c2:=o.Roots) (c3:=o.Last.A) (c4:=o.Last.B) (c5:=o.Nonce) (c6:=o.Queries) (root::o.Roots) (q.Pairs.map toK) q.Paths D (v+ρ) [] [] [] [] p.toNat none (c1R h e1 b a) om rfl rfl rfl (by rw [ai,ah];omega) (by rw [ai,ah];omega) om (by simp) (by simp)
 simp only [bg,ai,c2r (Mv (h.qq q a)).2.1,ew h0,m1 h.la] at key
 exact key
theorem a4n (h:OkO o v t) (e1:t.Rate=(ρ:Int)) (b:D.length=v) (a:q∈o.Queries) {p:Int} (h0:0<=p) (d:p<512):
 wZ (root::o.Roots) (kv D) ((2^(v+ρ):Nat):Int) p o q=some (qcK (toK o.Last) (v+ρ) (root::o.Roots) (q.Pairs.map toK) q.Paths D p.toNat none):=by
 have e:=xn h.st
 have f:=h.v1
 have i:=h.ro
 have key:=Vi (l:=toK o.Last) (M:=v+ρ) (V:=(((root::o.Roots).length:Nat):Int)) (c:=o.Rounds) (c2:=o.Roots) (c3:=o.Last.A) (c4:=o.Last.B) (c5:=o.Nonce) (c6:=o.Queries) (root::o.Roots) (q.Pairs.map toK) q.Paths D (v+ρ) [] [] [] [] p.toNat none (c1R h e1 b a) om rfl rfl rfl rfl (by rw [ai];omega) (by rw [ai,ah];omega) om (by simp) (by simp)
 simp only [bg,ai,c2r (Mv (h.qq q a)).2.1,ew h0,m1 h.la] at key
 exact key
end
section
theorem Qg {v:Nat} {V:Int} {rts l:List (List UInt8)} {t2:List Ext} {c c2 c3 c4 c5 c8 c9 c10 c16 c18:Int} {c11:List Query} {c17:List UInt8} (hV:V=(v:Int)) (m:rts.length+1=v) (b: ∀x∈rts,x.length=32): ∀(R pre:List (List K)) (cl:K) (s:Source) (k:Int) (P:List Ext),(∀g∈R,g.length=3)->Few s k->k+3*R.length<=999890->P.length+R.length<=1000->pre.length+R.length=v->v<=100->
 ((vfM 1 (bvO v rts) R pre.length cl s).1=0->Loop (eJ l V t2 c c2 c3 c4 c5 (kvv (pre++R)) rts c8 c9 c10 c11 c16 c17 c18) (P,(pre.length:Int),s.Script,s.At,s.State,s.Count,cl.1.A,cl.1.B)=
   some (.inr (P++kv (vfM 1 (bvO v rts) R pre.length cl s).2.1,V,false,(vfM 1 (bvO v rts) R pre.length cl s).2.2.2.Script,(vfM 1 (bvO v rts) R pre.length cl s).2.2.2.At,(vfM 1 (bvO v rts) R pre.length cl s).2.2.2.State,(vfM 1 (bvO v rts) R pre.length cl s).2.2.2.Count,
    (vfM 1 (bvO v rts) R pre.length cl s).2.2.1.1.A,(vfM 1 (bvO v rts) R pre.length cl s).2.2.1.1.B)))/\
 ((vfM 1 (bvO v rts) R pre.length cl s).1≠0->(vfM 1 (bvO v rts) R pre.length cl s).1=10/\ ∃e,Loop (eJ l V t2 c c2 c3 c4 c5 (kvv (pre++R)) rts c8 c9 c10 c11 c16 c17 c18) (P,(pre.length:Int),s.Script,s.At,s.State,s.Count,cl.1.A,cl.1.B)=some (.inl e))
 |[],pre,cl,s,k,P,n,a,u,w,o,y=>by
  rw [ai] at o
  refine ⟨fun _=>bX ?_,fun h=>absurd rfl h⟩
  simp only [eJ,bU]
  rw [brn om,ag om]
  simp [vfM,kv];omega
 |g::R,pre,cl,s,k,P,n,a,u,w,o,y=>by
  rw [ah] at u w o
  have p:=n g (by simp)
  have hat:atL (kvv (pre++g::R)) (pre.length:Int)=some (kv g):=by rw [WA (by simp)];simp
  have hk0:0<=k:=by have:=a.2;have:=a.1.4;omega
  rw [vfM,ae (show g.length=1+2 from p)]
  by_cases f:g.getD 0 0+g.getD 1 0=cl
  ·rw [ae f]
   have q:Few (bvO v rts pre.length (nsM s g)) (k+2+1):=XH v rts _ _ _ (Ja a om g) om
   have ih:=Qg (l:=l) (t2:=t2) (c:=c) (c2:=c2) (c3:=c3) (c4:=c4) (c5:=c5) (c8:=c8) (c9:=c9) (c10:=c10) (c11:=c11) (c16:=c16) (c17:=c17) (c18:=c18) hV m b R (pre++[g]) (lnK g (rdM s g)) (bvO v rts pre.length (nsM s g)) (k+2+1) (P++[(rdM s g).1]) (fun x r=>n x (by simp [r])) q om (by rw [ab,am];omega) (by rw [ab,am];omega) y
   rw [aV,aU,ab,am] at ih
   have step:eJ l V t2 c c2 c3 c4 c5 (kvv (pre++g::R)) rts c8 c9 c10 c11 c16 c17 c18 (P,(pre.length:Int),s.Script,s.At,s.State,s.Count,cl.1.A,cl.1.B)=
    some (.inl (P++[(rdM s g).1],((pre.length+1:Nat):Int),(bvO v rts pre.length (nsM s g)).Script,(bvO v rts pre.length (nsM s g)).At,(bvO v rts pre.length (nsM s g)).State,(bvO v rts pre.length (nsM s g)).Count,(lnK g (rdM s g)).1.A,(lnK g (rdM s g)).1.B)):=by
    simp only [eJ]
    rw [brd om,hat,obs,atK (i:=0) (j:=0) rfl om,obs,atK (i:=1) (j:=1) rfl om,obs,lO (aI _) (aI _),obs]
    rw [show eA (g.getD 0 0).1 (g.getD 1 0).1=cl.1 from congrArg Subtype.val f,bre rfl,bre rfl,show Source.mk s.Script s.At s.State s.Count=s from rfl,QH a.1 om,obs,c2o a,obs]
    dsimp only
    rw [Wb _ om,obs,bt (by rw [ab,am];omega),ak _ om om]
    by_cases z:pre.length+1<v
    ·have r:rts.getD pre.length []∈rts:=by simp [show pre.length<rts.length by omega]
     rw [brd om,pX (d:=[]) om,obs,vx (Ja a om g).1.3 (by rw [b _ r];omega),obs,bvO,ae z];rfl
    ·rw [brn om,bvO,aa z];rfl
   refine ⟨fun h=> ?_,fun h=> ?_⟩
   ·rw [cf step,ih.1 h]
    simp [kv]
   ·obtain ⟨t,e,he⟩:=ih.2 h
    exact ⟨t,e,by rw [cf step,he]⟩
  ·rw [aa f]
   refine ⟨fun h=>absurd (show (10:Int)=0 from h) (by decide),fun _=>⟨rfl,(P,s.Script,s.At,s.State,s.Count,s.Script,s.At,s.State,s.Count,cl.1.A,cl.1.B),bX ?_⟩⟩
   simp only [eJ]
   rw [brd om,hat,obs,atK (i:=0) (j:=0) rfl om,obs,atK (i:=1) (j:=1) rfl om,obs,lO (aI _) (aI _),obs]
   rw [show eA (g.getD 0 0).1 (g.getD 1 0).1=(g.getD 0 0+g.getD 1 0).1 from rfl,HB,aa f]
theorem Qk {v:Nat} {V:Int} {rts:List (List UInt8)} {c6:List (List Ext)} {c8 c9 c10 c14 c15:Int} {c11:List Query} (z:V=(v:Int)) (m:rts.length+1=v) (a: ∀x∈rts,x.length=32): ∀(R pre:List (List K)) (cl:K) (s:Source) (k:Int) (P:List Ext),(∀g∈R,g.length=3)->Few s k->k+3*R.length<=999890->P.length+R.length<=1000->pre.length+R.length=v->v<=100->
 ((vfM 1 (bvO v rts) R pre.length cl s).1=0->Loop (bn 1 (kvv (pre++R)) V c14 c15) (P,(pre.length:Int),s.Script,s.At,s.State,s.Count,V,c6,rts,c8,c9,c10,c11,cl.1.A,cl.1.B)=
   some (.inr (P++kv (vfM 1 (bvO v rts) R pre.length cl s).2.1,V,false,(vfM 1 (bvO v rts) R pre.length cl s).2.2.2.Script,(vfM 1 (bvO v rts) R pre.length cl s).2.2.2.At,(vfM 1 (bvO v rts) R pre.length cl s).2.2.2.State,(vfM 1 (bvO v rts) R pre.length cl s).2.2.2.Count,V,c6,rts,c8,c9,c10,c11,
    (vfM 1 (bvO v rts) R pre.length cl s).2.2.1.1.A,(vfM 1 (bvO v rts) R pre.length cl s).2.2.1.1.B)))/\
 ((vfM 1 (bvO v rts) R pre.length cl s).1≠0->(vfM 1 (bvO v rts) R pre.length cl s).1=10/\ ∃e:List Ext×Int×List Ext×Int×List UInt8×Int×Int×List (List Ext)×List (List UInt8)×Int×Int×Int×List Query×Int×Int,e.2.1=10/\Loop (bn 1 (kvv (pre++R)) V c14 c15) (P,(pre.length:Int),s.Script,s.At,s.State,s.Count,V,c6,rts,c8,c9,c10,c11,cl.1.A,cl.1.B)=some (.inl e))
 |[],pre,cl,s,k,P,n,b,t,u,o,w=>by
  rw [ai] at o
  refine ⟨fun _=>bX ?_,fun h=>absurd rfl h⟩
  simp only [bn,bU]
  rw [brn om,ag om]
  simp [vfM,kv];omega
 |g::R,pre,cl,s,k,P,n,b,t,u,o,w=>by
  rw [ah] at t u o
  have p:=n g (by simp)
  have c:qY 1=some ((2:Nat):Int):=Al (kind:=1) (.inl rfl)
  have hat:atL (kvv (pre++g::R)) (pre.length:Int)=some (kv g):=by rw [WA (by simp)];simp
  have hk0:0<=k:=by have:=b.2;have:=b.1.4;omega
  rw [vfM,ae (show g.length=1+2 from p)]
  by_cases f:g.getD 0 0+g.getD 1 0=cl
  ·rw [ae f]
   have q:Few (bvO v rts pre.length (nsM s g)) (k+2+1):=XH v rts _ _ _ (Ja b om g) om
   have ih:=Qk (c6:=c6) (c8:=c8) (c9:=c9) (c10:=c10) (c11:=c11) (c14:=c14) (c15:=c15) z m a R (pre++[g]) (lnK g (rdM s g)) (bvO v rts pre.length (nsM s g)) (k+2+1) (P++[(rdM s g).1]) (fun x l=>n x (by simp [l])) q om (by rw [ab,am];omega) (by rw [ab,am];omega) w
   rw [aV,aU,ab,am] at ih
   have step:bn 1 (kvv (pre++g::R)) V c14 c15 (P,(pre.length:Int),s.Script,s.At,s.State,s.Count,V,c6,rts,c8,c9,c10,c11,cl.1.A,cl.1.B)=
    some (.inl (P++[(rdM s g).1],((pre.length+1:Nat):Int),(bvO v rts pre.length (nsM s g)).Script,(bvO v rts pre.length (nsM s g)).At,(bvO v rts pre.length (nsM s g)).State,(bvO v rts pre.length (nsM s g)).Count,V,c6,rts,c8,c9,c10,c11,(lnK g (rdM s g)).1.A,(lnK g (rdM s g)).1.B)):=by
    simp only [bn,lm]
    rw [brd om,hat,obs,c,obs,ak _ om om,fk (by rw [cg];omega),atK (i:=0) (j:=0) rfl om,obs,atK (i:=1) (j:=1) rfl om,obs,lN (aI _) (aI _),obs]
    rw [show eA (g.getD 0 0).1 (g.getD 1 0).1=cl.1 from congrArg Subtype.val f,bre rfl,bre rfl,show Source.mk s.Script s.At s.State s.Count=s from rfl,Sj b.1 om,obs,c1Y b,obs]
    dsimp only
    rw [NM _ om,obs,bt (by rw [ab,am];omega),ak (V-1) om om,ak ((pre.length:Int)+1) om om]
    by_cases y:pre.length+1<v
    ·have l:rts.getD pre.length []∈rts:=by simp [show pre.length<rts.length by omega]
     rw [brd om,pX (d:=[]) om,obs,bt (by rw [a _ l];omega),vW (Ja b om g).1.3 (by rw [a _ l];omega),obs,obs,bvO,ae y];rfl
    ·rw [brn om,obs,bvO,aa y];rfl
   refine ⟨fun h=> ?_,fun h=> ?_⟩
   ·rw [cf step,ih.1 h]
    simp [kv]
   ·obtain ⟨r,e,h1,he⟩:=ih.2 h
    exact ⟨r,e,h1,by rw [cf step,he]⟩
  ·rw [aa f]
   refine ⟨fun h=>absurd (show (10:Int)=0 from h) (by decide),fun _=>⟨rfl,(P,10,s.Script,s.At,s.State,s.Count,V,c6,rts,c8,c9,c10,c11,cl.1.A,cl.1.B),rfl,bX ?_⟩⟩
   simp only [bn,lm]
   rw [brd om,hat,obs,c,obs,ak _ om om,fk (by rw [cg];omega),atK (i:=0) (j:=0) rfl om,obs,atK (i:=1) (j:=1) rfl om,obs,lN (aI _) (aI _),obs]
   rw [show eA (g.getD 0 0).1 (g.getD 1 0).1=(g.getD 0 0+g.getD 1 0).1 from rfl,HB,aa f]
end
section
variable {o:Opening} {v ρ nq bits:Nat} {t:Setting} {root:List UInt8} {D P:List K} {s:Source} {k:Int}
theorem Vp {c21 c22 c23 c24 c25 c33 c35 c36 c38 c39 c40:Int} {c32:List Ext} {c34 c37:List UInt8} (h:OkO o v t) (e1:t.Rate=(ρ:Int)) (hD:D.length=v): ∀(ps:List Int) (qs:List Query) (preP:List Int) (preQ:List Query),o.Queries=preQ++qs->preP.length=preQ.length->ps.length=qs.length->preP.length+ps.length<=100->(∀p∈ps,0<=p/\p<512)->
 (qsC (toK o.Last) (v+ρ) (root::o.Roots) D ps qs=0->Loop (iq (root::o.Roots) (kv D) (v:Int) ((2^(v+ρ):Nat):Int) (preP++ps) c21 c22 c23 c24 c25 o.Rounds o.Roots o.Last.A o.Last.B o.Nonce o.Queries c32 c33 c34 c35 c36 c37 c38 c39 c40) (preP.length:Int)=some (.inr (((preP++ps).length:Int),false)))/\
 (qsC (toK o.Last) (v+ρ) (root::o.Roots) D ps qs≠0->Loop (iq (root::o.Roots) (kv D) (v:Int) ((2^(v+ρ):Nat):Int) (preP++ps) c21 c22 c23 c24 c25 o.Rounds o.Roots o.Last.A o.Last.B o.Nonce o.Queries c32 c33 c34 c35 c36 c37 c38 c39 c40) (preP.length:Int)=some (.inl (qsC (toK o.Last) (v+ρ) (root::o.Roots) D ps qs)))
 |[],qs,preP,preQ,hQ,h1,h2,h3,hp=>by
  refine ⟨fun _=>bX ?_,fun h=>absurd (by cases qs<;>rfl) h⟩
  simp only [iq]
  rw [bU,brn om,ag om]
 |p::ps,[],preP,preQ,hQ,h1,h2,h3,hp=>by simp at h2
 |p::ps,q::qs,preP,preQ,hQ,h1,h2,h3,hp=>by
  rw [ah] at h3
  have hp0:=hp p (by simp)
  have hm:q∈o.Queries:=by rw [hQ];simp
  have hq:=a5f (root:=root) h e1 hD hm hp0.1 hp0.2
  have ih:=Vp (c21:=c21) (c22:=c22) (c23:=c23) (c24:=c24) (c25:=c25) (c32:=c32) (c33:=c33) (c34:=c34) (c35:=c35) (c36:=c36) (c37:=c37) (c38:=c38) (c39:=c39) (c40:=c40) h e1 hD ps qs (preP++[p]) (preQ++[q]) (by rw [hQ];simp) (by simp [h1]) (by simpa using h2) (by rw [ab,am];omega) (fun x hx=>hp x (by simp [hx]))
  rw [aV,aU,show (preP++[p]).length=preP.length+1 by simp] at ih
  have hs:iq (root::o.Roots) (kv D) (v:Int) ((2^(v+ρ):Nat):Int) (preP++p::ps) c21 c22 c23 c24 c25 o.Rounds o.Roots o.Last.A o.Last.B o.Nonce o.Queries c32 c33 c34 c35 c36 c37 c38 c39 c40 (preP.length:Int)=
   br (qcK (toK o.Last) (v+ρ) (root::o.Roots) (q.Pairs.map toK) q.Paths D p.toNat none !=0) (some (.inr (.inl (qcK (toK o.Last) (v+ρ) (root::o.Roots) (q.Pairs.map toK) q.Paths D p.toNat none)))) (some (.inl ((preP.length+1:Nat):Int))):=by
   simp only [iq]
   rw [brd (by rw [ab,ah];omega),n3 rfl,obs,show atL o.Queries (preP.length:Int)=some q by rw [hQ];exact n3 om,obs,show Opening.mk o.Rounds o.Roots (Ext.mk o.Last.A o.Last.B) o.Nonce o.Queries=o from rfl,hq,obs,ak _ om om];rfl
  rw [qsC]
  by_cases hz:qcK (toK o.Last) (v+ρ) (root::o.Roots) (q.Pairs.map toK) q.Paths D p.toNat none=0
  ·rw [ae hz]
   rw [fk hz] at hs
   rw [cf hs];exact ih
  ·rw [aa hz]
   rw [brb hz] at hs
   exact ⟨fun h=>absurd h hz,fun _=>bX hs⟩
theorem Vg {c2 c4 c5 c6 c7 c8 c9 c16 c17 c18 N:Int} {c:List Ext} {c3:List UInt8} (h:OkO o v t) (e1:t.Rate=(ρ:Int)) (hD:D.length=v): ∀(ps:List Int) (qs:List Query) (preP:List Int) (preQ:List Query),o.Queries=preQ++qs->preP.length=preQ.length->ps.length=qs.length->preP.length+ps.length<=100->(∀p∈ps,0<=p/\p<512)->N=((preP++ps).length:Int)->
 (qsC (toK o.Last) (v+ρ) (root::o.Roots) D ps qs=0->Loop (eP (root::o.Roots) (kv D) ((2^(v+ρ):Nat):Int) (preP++ps) N c c2 c3 c4 c5 c6 c7 c8 c9 o.Rounds o.Roots o.Last.A o.Last.B o.Nonce o.Queries c16 c17 c18) (preP.length:Int)=some (.inr (N,false)))/\
 (qsC (toK o.Last) (v+ρ) (root::o.Roots) D ps qs≠0->Loop (eP (root::o.Roots) (kv D) ((2^(v+ρ):Nat):Int) (preP++ps) N c c2 c3 c4 c5 c6 c7 c8 c9 o.Rounds o.Roots o.Last.A o.Last.B o.Nonce o.Queries c16 c17 c18) (preP.length:Int)=some (.inl (qsC (toK o.Last) (v+ρ) (root::o.Roots) D ps qs)))
 |[],qs,preP,preQ,hQ,h1,h2,h3,hp,hN=>by
  rw [bU] at hN
  refine ⟨fun _=>bX ?_,fun h=>absurd (by cases qs<;>rfl) h⟩
  simp only [eP]
  rw [brn om,ag om,hN]
 |p::ps,[],preP,preQ,hQ,h1,h2,h3,hp,hN=>by simp at h2
 |p::ps,q::qs,preP,preQ,hQ,h1,h2,h3,hp,hN=>by
  rw [ah] at h3
  have hp0:=hp p (by simp)
  have hm:q∈o.Queries:=by rw [hQ];simp
  have hq:=a4n (root:=root) h e1 hD hm hp0.1 hp0.2
  have ih:=Vg (N:=N) (c:=c) (c2:=c2) (c3:=c3) (c4:=c4) (c5:=c5) (c6:=c6) (c7:=c7) (c8:=c8) (c9:=c9) (c16:=c16) (c17:=c17) (c18:=c18) h e1 hD ps qs (preP++[p]) (preQ++[q]) (by rw [hQ];simp) (by simp [h1]) (by simpa using h2) (by rw [ab,am];omega) (fun x hx=>hp x (by simp [hx])) (by rw [hN];simp)
  rw [aV,aU,show (preP++[p]).length=preP.length+1 by simp] at ih
  have hs:eP (root::o.Roots) (kv D) ((2^(v+ρ):Nat):Int) (preP++p::ps) N c c2 c3 c4 c5 c6 c7 c8 c9 o.Rounds o.Roots o.Last.A o.Last.B o.Nonce o.Queries c16 c17 c18 (preP.length:Int)=
   br (qcK (toK o.Last) (v+ρ) (root::o.Roots) (q.Pairs.map toK) q.Paths D p.toNat none !=0) (some (.inr (.inl (qcK (toK o.Last) (v+ρ) (root::o.Roots) (q.Pairs.map toK) q.Paths D p.toNat none)))) (some (.inl ((preP.length+1:Nat):Int))):=by
   simp only [eP]
   rw [brd (by rw [hN,ab,ah];omega),n3 rfl,obs,show atL o.Queries (preP.length:Int)=some q by rw [hQ];exact n3 om,obs,show Opening.mk o.Rounds o.Roots (Ext.mk o.Last.A o.Last.B) o.Nonce o.Queries=o from rfl,hq,obs,ak _ om om];rfl
  rw [qsC]
  by_cases hz:qcK (toK o.Last) (v+ρ) (root::o.Roots) (q.Pairs.map toK) q.Paths D p.toNat none=0
  ·rw [ae hz]
   rw [fk hz] at hs
   rw [cf hs];exact ih
  ·rw [aa hz]
   rw [brb hz] at hs
   exact ⟨fun h=>absurd h hz,fun _=>bX hs⟩
def G9 (o:Opening):List (List K):=o.Rounds.map fun g=>g.map toK
theorem a7u (h:OkO o v t):kvv (G9 o)=o.Rounds:=by
 rw [kvv,G9,jm]
 refine (cC fun g a=> ?_).trans (List.map_id _)
 exact c2r (h.rr g a).2
end
section
variable {o:Opening} {v ρ nq bits:Nat} {t:Setting} {root:List UInt8} {P:List K} {cl:K} {s:Source} {k:Int}
noncomputable def vfO (v:Nat) (o:Opening) (cl:K) (s:Source):Int×List K×K×Source:=vfM 1 (bvO v o.Roots) (G9 o) 0 cl s
noncomputable def chO (v ρ nq bits:Nat) (root:List UInt8) (P:List K) (cl:K) (o:Opening) (s:Source):Int:=chC (v+ρ) bits nq root P o.Roots (toK o.Last) o.Nonce o.Queries (vfO v o cl s)
theorem a5M (h:OkO o v t) (hP:P.length=v) (e1:t.Rate=(ρ:Int)) (e2:t.Queries=(nq:Int)) (e3:t.Grind=(bits:Int)) (n:Few s k) (hk:k<=999850):
 ∃src,y8 root (v:Int) (kv P) cl.1 t o s=some (src,chO v ρ nq bits root P cl o s)/\(chO v ρ nq bits root P cl o s=0->src=chS nq (toK o.Last) o.Nonce (vfO v o cl s)):=by
 have hs:=xn h.st
 have hv:=h.v1
 have hro:=h.ro
 have w:=h.rn
 have hqn:=h.qn
 have hk0:0<=k:=by have:=n.2;have:=n.1.4;omega
 have z:(G9 o).length=v:=by rw [G9,aO,w]
 have hr3: ∀g∈G9 o,g.length=3:=fun g hg=>by
  obtain ⟨x,hx,rfl⟩:=bq.1 hg
  rw [aO,(h.rr x hx).1]
 obtain ⟨q,hq⟩: ∃q,v+ρ=q+1:=⟨v+ρ-1,by omega⟩
 have hpq:=a5w q om
 have p:=Qg (V:=(v:Int)) (rts:=o.Roots) (l:=root::o.Roots) (t2:=kv P) (c:=cl.1.A) (c2:=cl.1.B) (c3:=t.Rate) (c4:=t.Queries) (c5:=t.Grind) (c8:=o.Last.A) (c9:=o.Last.B) (c10:=o.Nonce) (c11:=o.Queries) (c16:=0) (c17:=[]) (c18:=0) rfl om h.rh (G9 o) [] cl s k [] hr3 n om (by rw [ai];omega) (by rw [ai];omega) om
 rw [bg,bg,ai,a7u h] at p
 have f:=Se (kind:=1) (bv:=bvO v o.Roots) (G9 o) 0 cl s
 have d:=Rc (kind:=1) (XH v o.Roots) (G9 o) 0 cl s k n om
 rw [show vfM 1 (bvO v o.Roots) (G9 o) 0 cl s=vfO v o cl s from rfl] at p f d
 rw [z] at f d
 unfold y8
 rw [bt (by simp only [ab,am];omega),aU]
 unfold chO chC
 by_cases h0:(vfO v o cl s).1=0
 ·have key:Loop (eJ (root::o.Roots) (v:Int) (kv P) cl.1.A cl.1.B t.Rate t.Queries t.Grind o.Rounds o.Roots o.Last.A o.Last.B o.Nonce o.Queries 0 [] 0) ([],0,s.Script,s.At,s.State,s.Count,cl.1.A,cl.1.B)=_:=p.1 h0
  have m:=f h0
  rw [key,obs,ny,ae h0]
  dsimp only
  have a:o.Last=(toK o.Last).1:=(m1 h.la).symm
  rw [a7h (by rw [m,hP]) om,obs,fB h.la (aI _),obs,show eM o.Last (eaK (vfO v o cl s).2.1 P 1).1=(toK o.Last*eaK (vfO v o cl s).2.1 P 1).1 by rw [K.mul_val, <-a],HB]
  by_cases r:toK o.Last*eaK (vfO v o cl s).2.1 P 1=(vfO v o cl s).2.2.1
  ·rw [ae r,ae r]
   have i:Few (rsM (vfO v o cl s).2.2.2 [toK o.Last]) (k+3*v+1):=d.take _
   rw [show Source.mk (vfO v o cl s).2.2.2.Script (vfO v o cl s).2.2.2.At (vfO v o cl s).2.2.2.State (vfO v o cl s).2.2.2.Count=(vfO v o cl s).2.2.2 from rfl,show ([o.Last]:List Ext)=kv [toK o.Last] by rw [kv,List.map_singleton, <-a],QH d.1 (by simp),obs,e3,b0m i.1.3 om,obs]
   cases h2:S8 (rsM (vfO v o cl s).2.2.2 [toK o.Last]).State bits o.Nonce with
   |false=>rw [du,cK,aa (by simp)];exact ⟨_,rfl,fun h=>absurd h (by decide)⟩
   |true=>
    have hfT:Few (tkM (rsM (vfO v o cl s).2.2.2 [toK o.Last]) (ig o.Nonce)) (k+3*v+1+1):=i.take _
    have hpl: ∀x∈plM (drL (tkM (rsM (vfO v o cl s).2.2.2 [toK o.Last]) (ig o.Nonce)) nq) ((2^q:Nat):Int),0<=x/\x<512:=fun x hx=>by
     obtain ⟨y,hy,rfl⟩:=bq.1 hx
     have g0:=p6 y.A (b:=((2^q:Nat):Int)) om
     have g1:=m3 y.A (b:=((2^q:Nat):Int)) om
     have g2:=a5w (q+1) om
     have g3:2^(q+1)=2*2^q:=by rw [fT];omega
     omega
    have hsh:bC .i64 1 (((v+ρ:Nat)):Int)=((2^(v+ρ):Nat):Int):=QR (v+ρ) om
    rw [aH,ba,ae rfl,A4,obs,vx i.1.3 (by rw [dG];omega),obs,e1,ak ((v:Int)+(ρ:Int)) om om,en _ om om,brd om,show (v:Int)+(ρ:Int)=((v+ρ:Nat):Int) by omega,hsh,hq,a7m q om,e2,a3C hfT om om om,obs,j4]
    have j:=Vp (root:=root) (D:=(vfO v o cl s).2.1) (c21:=cl.1.A) (c22:=cl.1.B) (c23:=(ρ:Int)) (c24:=(nq:Int)) (c25:=t.Grind) (c32:=(drS (tkM (rsM (vfO v o cl s).2.2.2 [toK o.Last]) (ig o.Nonce)) nq).Script) (c33:=(drS (tkM (rsM (vfO v o cl s).2.2.2 [toK o.Last]) (ig o.Nonce)) nq).At) (c34:=(drS (tkM (rsM (vfO v o cl s).2.2.2 [toK o.Last]) (ig o.Nonce)) nq).State) (c35:=(drS (tkM (rsM (vfO v o cl s).2.2.2 [toK o.Last]) (ig o.Nonce)) nq).Count) (c36:=0) (c37:=[]) (c38:=0) (c39:=(vfO v o cl s).2.2.1.1.A) (c40:=(vfO v o cl s).2.2.1.1.B) h e1 m (plM (drL (tkM (rsM (vfO v o cl s).2.2.2 [toK o.Last]) (ig o.Nonce)) nq) ((2^q:Nat):Int)) o.Queries [] [] rfl rfl (by rw [plM,aO,oQ];omega) (by rw [plM,aO,oQ,ai];omega) hpl
    rw [bg,ai,hq,e3] at j
    by_cases u:qsC (toK o.Last) (q+1) (root::o.Roots) (vfO v o cl s).2.1 (plM (drL (tkM (rsM (vfO v o cl s).2.2.2 [toK o.Last]) (ig o.Nonce)) nq) ((2^q:Nat):Int)) o.Queries=0
    ·have kk:=j.1 u
     rw [show (((0:Nat):Int))=0 from rfl] at kk
     rw [kk,u]
     exact ⟨_,rfl,fun _=>rfl⟩
    ·have kk:=j.2 u
     rw [show (((0:Nat):Int))=0 from rfl] at kk
     rw [kk]
     exact ⟨_,rfl,fun h=>absurd h u⟩
  ·rw [aa r,aa r]
   exact ⟨_,rfl,fun h=>absurd h (by decide)⟩
 ·obtain ⟨h10,e,he⟩:=p.2 h0
  have key:Loop (eJ (root::o.Roots) (v:Int) (kv P) cl.1.A cl.1.B t.Rate t.Queries t.Grind o.Rounds o.Roots o.Last.A o.Last.B o.Nonce o.Queries 0 [] 0) ([],0,s.Script,s.At,s.State,s.Count,cl.1.A,cl.1.B)=_:=he
  rw [key,obs,kW,aa h0,h10]
  exact ⟨_,rfl,fun h=>absurd h (by decide)⟩
end
section
variable {o:Opening} {v ρ nq bits:Nat} {t:Setting} {root:List UInt8} {P:List K} {cl:K} {s:Source} {k:Int}
theorem a6k (h:OkO o v t) (hP:P.length=v) (e1:t.Rate=(ρ:Int)) (e2:t.Queries=(nq:Int)) (e3:t.Grind=(bits:Int)) (r:Few s k) (hk:k<=999850):
 ∃src,o0 root (kv P) cl.1 t o s=some (chO v ρ nq bits root P cl o s,src)/\(chO v ρ nq bits root P cl o s=0->src=chS nq (toK o.Last) o.Nonce (vfO v o cl s)):=by
 have hs:=xn h.st
 have hv:=h.v1
 have hro:=h.ro
 have l:=h.rn
 have hqn:=h.qn
 have hk0:0<=k:=by have:=r.2;have:=r.1.4;omega
 have hrl:(G9 o).length=v:=by rw [G9,aO,l]
 have hr3: ∀g∈G9 o,g.length=3:=fun g hg=>by
  obtain ⟨x,hx,rfl⟩:=bq.1 hg
  rw [aO,(h.rr x hx).1]
 obtain ⟨q,hq⟩: ∃q,v+ρ=q+1:=⟨v+ρ-1,by omega⟩
 have hpq:=a5w q om
 have u:=Qk (V:=(v:Int)) (rts:=o.Roots) (c6:=o.Rounds) (c8:=o.Last.A) (c9:=o.Last.B) (c10:=o.Nonce) (c11:=o.Queries) (c14:=0) (c15:=0) rfl om h.rh (G9 o) [] cl s k [] hr3 r om (by rw [ai];omega) (by rw [ai];omega) om
 rw [bg,bg,ai,a7u h] at u
 have f:=Se (kind:=1) (bv:=bvO v o.Roots) (G9 o) 0 cl s
 have d:=Rc (kind:=1) (XH v o.Roots) (G9 o) 0 cl s k r om
 rw [show vfM 1 (bvO v o.Roots) (G9 o) 0 cl s=vfO v o cl s from rfl] at u f d
 rw [hrl] at f d
 unfold o0 e5
 rw [cg,hP,l]
 unfold chO chC
 by_cases h0:(vfO v o cl s).1=0
 ·have key:Loop (bn 1 o.Rounds (v:Int) 0 0) ([],0,s.Script,s.At,s.State,s.Count,(v:Int),o.Rounds,o.Roots,o.Last.A,o.Last.B,o.Nonce,o.Queries,cl.1.A,cl.1.B)=_:=u.1 h0
  have m:=f h0
  rw [key,obs,ny,ae h0,obs]
  dsimp only
  rw [fk rfl]
  simp only [show Ext.mk o.Last.A o.Last.B=o.Last from rfl]
  have a:o.Last=(toK o.Last).1:=(m1 h.la).symm
  rw [a7G (by rw [m,hP]) om,obs,fQ h.la (aI _),obs,show eM o.Last (eaK (vfO v o cl s).2.1 P 1).1=(toK o.Last*eaK (vfO v o cl s).2.1 P 1).1 by rw [K.mul_val, <-a],HB]
  by_cases w:toK o.Last*eaK (vfO v o cl s).2.1 P 1=(vfO v o cl s).2.2.1
  ·rw [ae w,ae w]
   have i:Few (rsM (vfO v o cl s).2.2.2 [toK o.Last]) (k+3*v+1):=d.take _
   rw [show Source.mk (vfO v o cl s).2.2.2.Script (vfO v o cl s).2.2.2.At (vfO v o cl s).2.2.2.State (vfO v o cl s).2.2.2.Count=(vfO v o cl s).2.2.2 from rfl,show ([o.Last]:List Ext)=kv [toK o.Last] by rw [kv,List.map_singleton, <-a],Sj d.1 (by simp),obs,e3,b0q i.1.3 om,obs]
   cases h2:S8 (rsM (vfO v o cl s).2.2.2 [toK o.Last]).State bits o.Nonce with
   |false=>rw [du,cK,aa (by simp)];exact ⟨_,rfl,fun h=>absurd h (by decide)⟩
   |true=>
    have n:Few (tkM (rsM (vfO v o cl s).2.2.2 [toK o.Last]) (ig o.Nonce)) (k+3*v+1+1):=i.take _
    have hpl: ∀x∈plM (drL (tkM (rsM (vfO v o cl s).2.2.2 [toK o.Last]) (ig o.Nonce)) nq) ((2^q:Nat):Int),0<=x/\x<512:=fun x hx=>by
     obtain ⟨y,hy,rfl⟩:=bq.1 hx
     have g0:=p6 y.A (b:=((2^q:Nat):Int)) om
     have g1:=m3 y.A (b:=((2^q:Nat):Int)) om
     have g2:=a5w (q+1) om
     have g3:2^(q+1)=2*2^q:=by rw [fT];omega
     omega
    have hsh:bC .i64 1 (((v+ρ:Nat)):Int)=((2^(v+ρ):Nat):Int):=QR (v+ρ) om
    rw [aH,ba,ae rfl,H7,obs,vW i.1.3 (by rw [dG];omega),obs,e1,ak ((v:Int)+(ρ:Int)) om om,brd om,bt (by simp only [ab,am];omega),show (v:Int)+(ρ:Int)=((v+ρ:Nat):Int) by omega,hsh,hq,a7m q om,e2,Jl n om om,obs,a3m (by rw [oQ];omega) (Rl n om om) om,obs,j4,aU]
    have p:(plM (drL (tkM (rsM (vfO v o cl s).2.2.2 [toK o.Last]) (ig o.Nonce)) nq) ((2^q:Nat):Int)).length=nq:=by rw [plM,aO,oQ]
    have j:=Vg (root:=root) (N:=(((plM (drL (tkM (rsM (vfO v o cl s).2.2.2 [toK o.Last]) (ig o.Nonce)) nq) ((2^q:Nat):Int)).length:Nat):Int)) (D:=(vfO v o cl s).2.1) (c:=(drS (tkM (rsM (vfO v o cl s).2.2.2 [toK o.Last]) (ig o.Nonce)) nq).Script) (c2:=(drS (tkM (rsM (vfO v o cl s).2.2.2 [toK o.Last]) (ig o.Nonce)) nq).At) (c3:=(drS (tkM (rsM (vfO v o cl s).2.2.2 [toK o.Last]) (ig o.Nonce)) nq).State) (c4:=(drS (tkM (rsM (vfO v o cl s).2.2.2 [toK o.Last]) (ig o.Nonce)) nq).Count) (c5:=cl.1.A) (c6:=cl.1.B) (c7:=(ρ:Int)) (c8:=(nq:Int)) (c9:=t.Grind) (c16:=(v:Int)) (c17:=(vfO v o cl s).2.2.1.1.A) (c18:=(vfO v o cl s).2.2.1.1.B) h e1 m (plM (drL (tkM (rsM (vfO v o cl s).2.2.2 [toK o.Last]) (ig o.Nonce)) nq) ((2^q:Nat):Int)) o.Queries [] [] rfl rfl (by rw [p];omega) (by rw [p,ai];omega) hpl rfl
    rw [bg,ai,hq,e3] at j
    by_cases z:qsC (toK o.Last) (q+1) (root::o.Roots) (vfO v o cl s).2.1 (plM (drL (tkM (rsM (vfO v o cl s).2.2.2 [toK o.Last]) (ig o.Nonce)) nq) ((2^q:Nat):Int)) o.Queries=0
    ·have kk:=j.1 z
     rw [show (((0:Nat):Int))=0 from rfl] at kk
     rw [kk,z]
     exact ⟨_,rfl,fun _=>rfl⟩
    ·have kk:=j.2 z
     rw [show (((0:Nat):Int))=0 from rfl] at kk
     rw [kk]
     exact ⟨_,rfl,fun h=>absurd h z⟩
  ·rw [aa w,aa w]
   exact ⟨_,rfl,fun h=>absurd h (by decide)⟩
 ·obtain ⟨h10,e,h11,he⟩:=u.2 h0
  have key:Loop (bn 1 o.Rounds (v:Int) 0 0) ([],0,s.Script,s.At,s.State,s.Count,(v:Int),o.Rounds,o.Roots,o.Last.A,o.Last.B,o.Nonce,o.Queries,cl.1.A,cl.1.B)=_:=he
  rw [key,obs,kW,aa h0,h10,obs]
  dsimp only
  rw [h11,brb (by decide)]
  exact ⟨_,rfl,fun h=>absurd h (by decide)⟩
end
section
variable {o:Opening} {v ρ nq bits:Nat} {t:Setting} {root:List UInt8} {P:List K} {cl:K} {s:Source} {k:Int}
end
section
theorem Xi {α:Type} {P:α->Prop} {f:α->Int->Option Int} {a:List α} {left:Int} (ha:a.length<=9223372036854775807) (h0: -1<=left) (h1:left<=1048576)
 (z: ∀x∈a, ∀l, -1<=l->l<=1048576-> ∃r,f x l=some r/\ -9223372036854775808<=r/\r<=1048576/\(0<=r->P x)) {step:Int×Int->Option ((Int×Int)⊕(Unit⊕(Int×Int×Bool)))}
 (hs: ∀l i,step (l,i)=br (decide (i<(a.length:Int))) ((atL a i).bind fun x=>(f x l).bind fun r=>br (decide (r<0)) (some (.inr (.inl ()))) (some (.inl (r,IntKind.wrap .i64 (i+1))))) (some (.inr (.inr (l,i,decide (i<(a.length:Int))))))):
 ∃r,br (decide (IntKind.wrap .i64 (left-(a.length:Int))<0)) (some (-1:Int)) ((Loop step (IntKind.wrap .i64 (left-(a.length:Int)),0)).bind (alt (fun _=>some (-1)) (fun e=>some e.1)))=some r/\ -1<=r/\r<=1048576/\(0<=r->a.length<=1048576/\ ∀x∈a,P x):=by
 rw [ak _ om om]
 by_cases h:left-(a.length:Int)<0
 ·rw [brd h];exact ⟨_,rfl,by omega,by omega,by omega⟩
 ·rw [brn h]
  have key:=pz (step:=step) (fun s=>0<=s.2/\s.2<=a.length/\0<=s.1/\s.1<=1048576/\ ∀j:Nat,(j:Int)<s.2-> ∀x,a[j]? =some x->P x) (fun s=>((a.length:Int)-s.2).toNat)
   (fun e:Unit⊕(Int×Int×Bool)=> ∀q,e= .inr q->0<=q.1/\q.1<=1048576/\ ∀x∈a,P x) ?_ (left-(a.length:Int),0) ⟨by dsimp only;omega,by dsimp only;omega,by dsimp only;omega,by dsimp only;omega,fun j d=>by dsimp only at d;omega⟩
  ·obtain ⟨e,he,hp⟩:=key
   rw [he]
   cases e with
   |inl u=>exact ⟨-1,rfl,by omega,by omega,by omega⟩
   |inr q=>have b:=hp q rfl;exact ⟨q.1,rfl,by omega,b.2.1,fun _=>⟨by omega,b.2.2⟩⟩
  ·rintro ⟨l,i⟩ ⟨v,i1,w,k,m⟩
   dsimp only at v i1 w k m
   rw [hs]
   by_cases hi:i<(a.length:Int)
   ·rw [brd hi]
    obtain ⟨x,n,o,hm⟩:=c6d v hi
    obtain ⟨r,hr,r0,r1,p⟩:=z x hm l om k
    rw [n,obs,hr,obs]
    by_cases hn:r<0
    ·rw [brd hn];exact .inr ⟨_,rfl,fun q b=>by cases b⟩
    ·rw [brn hn,ak _ om om]
     refine .inl ⟨_,rfl,⟨by dsimp only;omega,by dsimp only;omega,by dsimp only;omega,r1,fun j d y t=> ?_⟩,by dsimp only;omega⟩
     dsimp only at d
     by_cases c:(j:Int)<i
     ·exact m j c y t
     ·have:j=i.toNat:=by omega
      subst this
      rw [o] at t;cases t
      exact p om
   ·rw [brn hi]
    refine .inr ⟨_,rfl,fun q b=> ?_⟩
    cases b
    refine ⟨w,k,fun x n=> ?_⟩
    obtain ⟨j,d,rfl⟩:=bp n
    exact m j om _ (aq d)
def SzT (x:List UInt8):Prop:=x.length<=1048576
def b26 (a:List (List UInt8)):Prop:=a.length<=1048576/\ ∀x∈a,SzT x
def a6X (a:List (List (List UInt8))):Prop:=a.length<=1048576/\ ∀x∈a,b26 x
def a9F (a:List (List Ext)):Prop:=a.length<=1048576/\ ∀x∈a,x.length<=1048576
def SzQ (q:Query):Prop:=q.Pairs.length<=1048576/\a6X q.Paths
def SzO (o:Opening):Prop:=a9F o.Rounds/\b26 o.Roots/\o.Queries.length<=1048576/\ ∀q∈o.Queries,SzQ q
def SzP (p:Proof):Prop:=SzT p.Root/\a9F p.Gates/\a9F p.Wires/\SzO p.Open
theorem SzO.sm {o:Opening} (h:SzO o):SmO o:=⟨by have:=h.1.1;omega,fun g b=>by have:=h.1.2 g b;omega,by have:=h.2.1.1;omega,by have:=h.2.2.1;omega,fun q a=>by have:=(h.2.2.2 q a).1;omega,fun q a p c=>by have:=((h.2.2.2 q a).2.2 p c).1;omega⟩
theorem D7 {a:List (List Ext)} {left:Int} (b:bdL (bdL bdExt) a) (h0: -1<=left) (c:left<=1048576): ∃r,xU a left=some r/\ -1<=r/\r<=1048576/\(0<=r->a9F a):=
 Xi (f:=vP) (step:=uG a) b.1 h0 c (fun x d l e h=>by
  obtain ⟨r,j,n,k,m⟩:=Fw (b.2 x d).1 e h
  exact ⟨r,j,by omega,k,m⟩) (fun l i=>rfl)
theorem Gj {a:List (List UInt8)} {left:Int} (b:bdL bdS a) (h0: -1<=left) (c:left<=1048576): ∃r,rB a left=some r/\ -1<=r/\r<=1048576/\(0<=r->b26 a):=
 Xi (f:=fun x l=>some (IntKind.wrap .i64 (l-(x.length:Int)))) (step:=mM a) b.1 h0 c (fun x d l e j=>by
  have k:x.length<=9223372036854775807:=b.2 x d
  exact ⟨_,rfl,by rw [ak _ om om];omega,by rw [ak _ om om];omega,fun h=>by rw [ak _ om om] at h;show x.length<=_;omega⟩) (fun l i=>by simp only [mM,obs])
theorem P9 {a:List (List (List UInt8))} {left:Int} (b:bdL (bdL bdS) a) (h0: -1<=left) (c:left<=1048576): ∃r,wN a left=some r/\ -1<=r/\r<=1048576/\(0<=r->a6X a):=
 Xi (f:=rB) (step:=oO a) b.1 h0 c (fun x d l e h=>by
  obtain ⟨r,j,n,k,m⟩:=Gj (b.2 x d) e h
  exact ⟨r,j,by omega,k,m⟩) (fun l i=>rfl)
theorem Zd {q:Query} {left:Int} (a:bdQuery q) (h0: -1<=left) (b:left<=1048576): ∃r,xL q left=some r/\ -1<=r/\r<=1048576/\(0<=r->SzQ q):=by
 obtain ⟨r,e,f,h,i⟩:=Fw a.1.1 h0 b
 unfold xL
 rw [e,obs]
 by_cases c:r<0
 ·rw [brd c];exact ⟨_,rfl,by omega,by omega,by omega⟩
 ·rw [brn c]
  obtain ⟨j,k,l,m,n⟩:=P9 a.2 f h
  rw [k,obs]
  by_cases d:j<0
  ·rw [brd d];exact ⟨_,rfl,by omega,by omega,by omega⟩
  ·rw [brn d];exact ⟨_,rfl,l,m,fun _=>⟨i om,n om⟩⟩
theorem UA {a:List Query} {left:Int} (b:bdL bdQuery a) (h0: -1<=left) (c:left<=1048576): ∃r,Dq a left=some r/\ -1<=r/\r<=1048576/\(0<=r->a.length<=1048576/\ ∀q∈a,SzQ q):=
 Xi (f:=xL) (step:=rL a) b.1 h0 c (fun x d l e h=>by
  obtain ⟨r,j,n,k,m⟩:=Zd (b.2 x d) e h
  exact ⟨r,j,by omega,k,m⟩) (fun l i=>rfl)
theorem SY {o:Opening} {left:Int} (a:bdOpening o) (h0: -1<=left) (b:left<=1048576): ∃r,vR o left=some r/\ -1<=r/\r<=1048576/\(0<=r->SzO o):=by
 obtain ⟨f,h,_,_,i⟩:=a
 obtain ⟨r,j,k,l,m⟩:=D7 f h0 b
 unfold vR
 rw [j,obs]
 by_cases c:r<0
 ·rw [brd c];exact ⟨_,rfl,by omega,by omega,by omega⟩
 ·rw [brn c]
  obtain ⟨n,p,q,s,t⟩:=Gj h k l
  rw [p,obs]
  by_cases d:n<0
  ·rw [brd d];exact ⟨_,rfl,by omega,by omega,by omega⟩
  ·rw [brn d]
   obtain ⟨u,v,w,x,y⟩:=UA i q s
   rw [v,obs]
   by_cases e:u<0
   ·rw [brd e];exact ⟨_,rfl,by omega,by omega,by omega⟩
   ·rw [brn e];exact ⟨_,rfl,w,x,fun _=>⟨m om,t om,y om⟩⟩
theorem YF {p:Proof} {left:Int} (b:bdProof p) (h0: -1<=left) (h1:left<=1048576): ∃r,BY p left=some r/\ -1<=r/\r<=1048576/\(0<=r->SzP p):=by
 obtain ⟨f,h,_,_,_,i,_,j⟩:=b
 have b0':p.Root.length<=9223372036854775807:=f
 unfold BY
 rw [ak _ om om]
 by_cases a:left-(p.Root.length:Int)<0
 ·rw [brd a];exact ⟨_,rfl,by omega,by omega,by omega⟩
 ·rw [brn a]
  obtain ⟨r,k,l,m,n⟩:=D7 h (show-1<=left-(p.Root.length:Int) by omega) om
  rw [k,obs]
  by_cases c:r<0
  ·rw [brd c];exact ⟨_,rfl,by omega,by omega,by omega⟩
  ·rw [brn c]
   obtain ⟨o,q,s,t,u⟩:=D7 i l m
   rw [q,obs]
   by_cases d:o<0
   ·rw [brd d];exact ⟨_,rfl,by omega,by omega,by omega⟩
   ·rw [brn d]
    obtain ⟨v,w,x,y,z⟩:=SY j s t
    rw [w,obs]
    by_cases e:v<0
    ·rw [brd e];exact ⟨_,rfl,by omega,by omega,by omega⟩
    ·rw [brn e];exact ⟨_,rfl,x,y,fun _=>⟨by show p.Root.length<=_;omega,n om,u om,z om⟩⟩
theorem Df {a:List (List Ext)} (h:a9F a):tP a=some a:=by
 have:=h.1
 unfold tP
 rw [EI om om om,aK,Ju (step:=uQ a) (f:=vj) (g:=fun x=>x) om (fun x b=>Fb (h.2 x b)) (fun l i=>rfl) (aw _)]
 simp
theorem EZ {a:List (List UInt8)} (h:b26 a):nG a=some a:=by
 have:=h.1
 unfold nG
 rw [EI om om om,aK,Ju (step:=qa a) (f:=fun x=>some x) (g:=fun x=>x) om (fun x b=>rfl) (fun l i=>rfl) (aw _)]
 simp
theorem OV {a:List (List (List UInt8))} (h:a6X a):rY a=some a:=by
 have:=h.1
 unfold rY
 rw [EI om om om,aK,Ju (step:=oz a) (f:=nG) (g:=fun x=>x) om (fun x b=>EZ (h.2 x b)) (fun l i=>rfl) (aw _)]
 simp
theorem Z5 {q:Query} (h:SzQ q):xQ q=some q:=by
 unfold xQ
 rw [Fb h.1,obs,OV h.2];rfl
theorem UG {a:List Query} (h:a.length<=1048576) (b: ∀q∈a,SzQ q):z8 a=some a:=by
 unfold z8
 rw [EI om om om,aK,Ju (step:=sn a) (f:=xQ) (g:=fun x=>x) om (fun x c=>Z5 (b x c)) (fun l i=>rfl) (aw _)]
 simp
theorem RF {o:Opening} (h:SzO o):vy o=some o:=by
 unfold vy sG
 rw [Df h.1,obs,EZ h.2.1,obs,obs,UG h.2.2.1 h.2.2.2];rfl
theorem Wv {p:Proof} (h:SzP p):te p=some p:=by
 unfold te sG
 rw [Df h.2.1,obs,obs,obs,obs,Df h.2.2.1,obs,obs,RF h.2.2.2];rfl
theorem y7 {a:List (List Ext)} (h:a9F a):tu a a=some true:=by
 have:=h.1
 unfold tu
 rw [fk rfl]
 exact MG (f:=vh) om (fun x b=>Bd (h.2 x b)) (fun t=>rfl)
theorem C0 {a:List (List UInt8)} (h:b26 a):o6 a a=some true:=by
 have:=h.1
 unfold o6
 rw [fk rfl]
 refine MG (a:=a) (f:=fun x y=>some (x==y)) om (fun x _=>by simp) (fun t=> ?_)
 simp only [qv]
 rfl
theorem KK {a:List (List (List UInt8))} (h:a6X a):sE a a=some true:=by
 have:=h.1
 unfold sE
 rw [fk rfl]
 exact MG (f:=o6) om (fun x b=>C0 (h.2 x b)) (fun t=>rfl)
theorem Q0 {q:Query} (h:SzQ q):xJ q q=some true:=by
 unfold xJ
 rw [Bd h.1,obs,aH,ba,KK h.2,obs,aH,ba]
theorem OJ {a:List Query} (h:a.length<=1048576) (b: ∀q∈a,SzQ q):yP a a=some true:=by
 unfold yP
 rw [fk rfl]
 exact MG (f:=xJ) om (fun x c=>Q0 (b x c)) (fun t=>rfl)
theorem LZ {o:Opening} (h:SzO o):vU o o=some true:=by
 unfold vU
 rw [y7 h.1,obs,aH,ba,C0 h.2.1,obs,aH,ba,oB,obs,aH,ba,fk rfl,OJ h.2.2.1 h.2.2.2,obs,aH,ba]
theorem PA {p:Proof} (h:SzP p):BE p p=some true:=by
 unfold BE
 rw [QX (by simp),y7 h.2.1,obs,aH,ba,oB,obs,aH,ba,oB,obs,aH,ba,oB,obs,aH,ba,y7 h.2.2.1,obs,aH,ba,oB,obs,aH,ba,LZ h.2.2.2,obs,aH,ba]
end
end Go.AI.Fn
